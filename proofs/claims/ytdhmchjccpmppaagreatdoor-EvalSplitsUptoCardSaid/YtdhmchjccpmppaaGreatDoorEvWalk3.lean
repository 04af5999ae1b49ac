/- Proved here: each function does what its functional text says (part 3). -/
import Derived.Test.YtdhmchjccpmppaaGreatDoorEvWalk2
set_option linter.unusedVariables false
set_option linter.unusedSimpArgs false
set_option linter.unusedSectionVars false
namespace Go.Proofs.YtdhmchjccpmppaaGreatDoor
open Go Go.Abs Go.Ft
set_option maxRecDepth 20000
attribute [local irreducible] AO AR AW AC
variable [iw]
variable {τ : List bE} {Q : eZ → List bE → Prop}
theorem Pg (c1:UInt8) {r0:Str} (hf:E8 c1=some r0) (h:Q (.ret (.str r0)) τ):PC 342 [.int .u8 (c1.toNat:Int)] τ Q:=by
 unfold E8 at hf; refine BN 44 [.tmp 2] [0] Tryz.func342 Z Z Z Z Z (V 4 Z (C hf Z (fun h1 hf=>?_) fun h1 hf=>?_))
 · refine W 0 Z (AS Z (AO.bq (List.map lg ([92,34]:List UInt8)) Z yw Z Z Z Z (AS Z (AO.oC Z FD zK cu Z Z ?_)))); cases hf; exact N 1 Z (Y Z h)
 refine V 3 Z (C hf Z (fun h2 hf=>?_) fun h2 hf=>?_)
 · refine W 0 Z (AS Z (AO.bq (List.map lg ([92,92]:List UInt8)) Z yw Z Z Z Z (AS Z (AO.oC Z FD zK cu Z Z ?_)))); cases hf; exact N 1 Z (Y Z h)
 refine V 3 Z (C hf Z (fun h3 hf=>?_) fun h3 hf=>?_)
 · refine W 0 Z (AS Z (AO.bq (List.map lg ([92,110]:List UInt8)) Z yw Z Z Z Z (AS Z (AO.oC Z FD zK cu Z Z ?_)))); cases hf; exact N 1 Z (Y Z h)
 refine V 3 Z (C hf Z (fun h4 hf=>?_) fun h4 hf=>?_)
 · refine W 0 Z (AS Z (AO.bq (List.map lg ([92,116]:List UInt8)) Z yw Z Z Z Z (AS Z (AO.oC Z FD zK cu Z Z ?_)))); cases hf; exact N 1 Z (Y Z h)
 refine W 3 Z (An 3 27 30 [0] (decide ((c1.toNat:Int)≤126)) Z Z Z Z (J 1 Z (C hf Z (fun h6 hf=>?_) fun h6 hf=>?_)))
 · refine W 1 Z (AS Z (AO.bq (List.map lg ([c1]:List UInt8)) Z yw Z Z Z Z (AS Z (AO.oC Z FD zK cu Z Z ?_)))); cases hf; exact N 1 Z (Y Z h)
 refine V 1 Z (AW.draw 11 mixed (by kernel_rfl) Z ?_); refine Ev.cs aP 2 Z (Ev.cons Z Z Z (AO.u8_quo c1 16 Z Z Z Z Z (by decide) zg) ?_); refine B1 hf fun x1 h7 hf=>Ev.cons Z Z Z (AO.fD h7 Z cu Z Z zg) (Ev.cs aP 2 Z (Ev.cons Z Z Z (AO.Vw c1 16 Z Z Z Z Z (by decide) zg) ?_)); refine B1 hf fun x2 h8 hf=>Ev.cons Z Z Z (AO.fD h8 Z cu Z Z zg) (Ev.cons Z Z Z (AO.bq (List.map lg ([92,120,x1,x2]:List UInt8)) Z yw Z Z Z Z zg) (Ev.cons Z Z Z (AO.oC Z FD zK cu Z Z zg) (Ev.cs aP 1 Z ?_)))
 refine Ev.nil ?_; show AR _ _ _ _ _ _ _ _
 cases hf; exact N 0 Z (Y Z h)

theorem Jw (s1:Str) {r0:Str} (hf:FU s1=some r0) (h:Q (.ret (.str r0)) τ):PC 306 [.str s1] τ Q:=by
 unfold FU at hf; refine BN 23 [.tmp 2] [0] Tryz.func306 Z Z Z Z Z (W 1 Z (AS Z (AO.bq (List.map lg ([34]:List UInt8)) Z yw Z Z Z Z (AS Z (AO.oC Z FD zK cu Z Z (J 2 Z (Zf (fun aT i1=>[(0,.str s1),(3,.str aT),(4,iP i1)]) (fun aT i1=>[]) (fun bW aT i1=>Ck s1 bW aT i1=some r0) BIG ([34]:List UInt8) 0 Z Z hf (fun _ _ hz=>bQ hz) ?_))))))); intro bW aT i1 hf; rw [Ck] at hf
 refine W 2 Z (AS Z (AO.bJ Z Z Z Z cu Z (J 1 Z (C hf Z (fun h1 hf=>?_) fun h1 hf=>?_))))
 · refine B1 hf fun x1 h2 hf=>W 3 Z (AS Z (AO.fD h2 Z cu Z Z ?_)); refine B1 hf fun x2 h3 hf=>CL Z (Pg _ h3 ?_); refine B1 hf fun Cq h4 hf=>AS Z (AO.kN h4 Z Z Z ?_); exact N 4 Z ⟨Cq,(bS (i1 + 1)),Z,Z,Z,hf⟩
 refine W 1 Z (AS Z (AO.bq (List.map lg ([34]:List UInt8)) Z yw Z Z Z Z (AS Z (AO.oC Z FD zK cu Z Z ?_)))); replace hf:=(aJ _).trans hf; refine B1 hf fun x3 h5 hf=>AS Z (AO.kN h5 Z Z Z ?_); cases hf; exact N 1 Z (Y Z h)


abbrev KJ (gT:ah→Option Str):Prop:=∀ (rZ:ah) {aU:Str},gT rZ=some aU→∀ {τ:List bE} {Q:eZ→List bE→Prop} (h:Q (.ret (.str aU)) τ),PC 262 [.agg (aF rZ)] τ Q
theorem SF (gT) (wW:KJ gT) (v1:ah) {r0:Str} (hf:AL gT v1=some r0) (h:Q (.ret (.str r0)) τ):PC 262 [.agg (aF v1)] τ Q:=by
 unfold AL at hf; refine BN 63 [.tmp 2] [0] Tryz.func262 Z Z Z Z Z (V 6 Z (C hf Z (fun h1 hf=>?_) fun h1 hf=>?_))
 · cases hf; exact M 1 Z (Y Z h)
 refine V 2 Z (C hf Z (fun h2 hf=>?_) fun h2 hf=>?_)
 ·
  refine V 2 Z (C hf Z (fun h3 hf=>?_) fun h3 hf=>?_)
  · cases hf; exact M 1 Z (Y Z h)
  cases hf; exact M 1 Z (Y Z h)
 refine V 2 Z (C hf Z (fun h4 hf=>?_) fun h4 hf=>?_)
 · replace hf:=(aJ _).trans hf; refine B1 hf fun x1 h5 hf=>W 2 Z (CL Z (Tw _ h5 ?_)); cases hf; exact N 1 Z (Y Z h)
 refine V 2 Z (C hf Z (fun h6 hf=>?_) fun h6 hf=>?_)
 · replace hf:=(aJ _).trans hf; refine B1 hf fun x2 h7 hf=>W 2 Z (CL Z (Jw _ h7 ?_)); cases hf; exact N 1 Z (Y Z h)
 refine V 2 Z (Zf (fun s1 i1=>[(1,.ref (aF v1)),(3,.str s1),(4,iP i1)]) (fun s1 i1=>[]) (fun bW s1 i1=>oH gT v1 bW s1 i1=some r0) BIG ([]:Str) 0 Z Z hf (fun _ _ hz=>bQ hz) ?_); intro bW s1 i1 hf; rw [oH] at hf; refine W 3 Z (AS Z (AO.aL (l:=v1.aI) Z Z Z Z dN Z (ah.aB _) (J 1 Z (C hf Z (fun h8 hf=>?_) fun h8 hf=>?_))))
 ·
  refine V 2 Z (C hf Z (fun h9 hf=>?_) fun h9 hf=>?_)
  ·
   refine B1 hf fun s2 h10 hf=>W 1 Z (AS Z (AO.kN h10 Z Z Z (J 4 Z (C hf Z (fun h11 hf=>?_) fun h11 hf=>?_))))
   ·
    refine B1 hf fun e1 h12 hf=>W 4 Z (AS Z (AO.aM h12 Z Z Z Z dO Z Z ?_)); refine B1 hf fun x3 jq hf=>U 1 Z (CL Z (Jw _ jq ?_)); refine B1 hf fun x4 kg hf=>AS Z (AO.kN kg Z Z Z ?_); refine B1 hf fun s3 kC hf=>AS Z (AO.kN kC Z Z Z ?_); refine B1 hf fun e2 h16 hf=>U 5 Z (AS Z (AO.aM h16 Z Z (ah.aB _) Z dN (ah.aG _) Z ?_)); refine B1 hf fun x5 mQ hf=>U 1 Z (CL Z (wW _ mQ ?_)); refine B1 hf fun s4 h18 hf=>AS Z (AO.kN h18 Z Z Z ?_)
    exact N 4 Z ⟨s4,(bS (i1 + 1)),Z,Z,Z,hf⟩
   refine B1 hf fun e3 h19 hf=>W 4 Z (AS Z (AO.aM h19 Z Z (ah.aB _) Z dN (ah.aG _) Z ?_)); refine B1 hf fun x6 h20 hf=>U 1 Z (CL Z (wW _ h20 ?_)); refine B1 hf fun s5 h21 hf=>AS Z (AO.kN h21 Z Z Z ?_); exact N 4 Z ⟨s5,(bS (i1 + 1)),Z,Z,Z,hf⟩
  refine V 3 Z (C hf Z (fun h22 hf=>?_) fun h22 hf=>?_)
  ·
   refine B1 hf fun e4 h23 hf=>W 4 Z (AS Z (AO.aM h23 Z Z Z Z dO Z Z ?_)); refine B1 hf fun x7 Ku hf=>U 1 Z (CL Z (Jw _ Ku ?_)); refine B1 hf fun x8 Sw hf=>AS Z (AO.kN Sw Z Z Z ?_); refine B1 hf fun s6 PI hf=>AS Z (AO.kN PI Z Z Z ?_); refine B1 hf fun e5 h27 hf=>U 5 Z (AS Z (AO.aM h27 Z Z (ah.aB _) Z dN (ah.aG _) Z ?_)); refine B1 hf fun x9 Xb hf=>U 1 Z (CL Z (wW _ Xb ?_)); refine B1 hf fun s7 Te hf=>AS Z (AO.kN Te Z Z Z ?_)
   exact N 4 Z ⟨s7,(bS (i1 + 1)),Z,Z,Z,hf⟩
  refine B1 hf fun e6 h30 hf=>W 4 Z (AS Z (AO.aM h30 Z Z (ah.aB _) Z dN (ah.aG _) Z ?_)); refine B1 hf fun CO h31 hf=>U 1 Z (CL Z (wW _ h31 ?_)); refine B1 hf fun s8 h32 hf=>AS Z (AO.kN h32 Z Z Z ?_); exact N 4 Z ⟨s8,(bS (i1 + 1)),Z,Z,Z,hf⟩
 refine V 3 Z (C hf Z (fun O9 hf=>?_) fun O9 hf=>?_)
 · refine B1 hf fun KP h34 hf=>W 1 Z (AS Z (AO.kN h34 Z Z Z ?_)); replace hf:=(aJ _).trans hf; refine B1 hf fun TU h35 hf=>AS Z (AO.kN h35 Z Z Z ?_); cases hf; exact N 1 Z (Y Z h)
 refine B1 hf fun Sv h36 hf=>W 1 Z (AS Z (AO.kN h36 Z Z Z ?_)); replace hf:=(aJ _).trans hf; refine B1 hf fun Vo h37 hf=>AS Z (AO.kN h37 Z Z Z ?_); cases hf; exact N 1 Z (Y Z h)
theorem SV :∀ k:Nat,(KJ (sI k)):=by
 intro k
 induction k with
 | zero=>exact fun _ _ hz=>by first | cases hz | (unfold sI at hz; cases hz)
 | succ k ih=>exact fun rZ aU hz τ Q hq=>SF (sI k) ih rZ hz hq
theorem Tv (rZ:ah) {aU:Str} (hf:IW rZ=some aU) (h:Q (.ret (.str aU)) τ):PC 262 [.agg (aF rZ)] τ Q:=
 ((SV BIG)) rZ hf h

theorem aau (v1:ah) {r0:Str} {r1:Int} (hf:IX v1=some (r0,r1)) (h:Q (.ret (.tuple [.str r0,iP r1])) τ):PC 202 [.agg (aF v1)] τ Q:=by
 unfold IX at hf; refine BN 28 [.tmp 2,.tmp 3] [0] Tryz.func202 Z Z Z Z Z (W 7 Z (On 4 8 12 [1] (v1.kind == 5) Z Z Z Z (J 0 Z (C hf Z (fun h2 hf=>?_) fun h2 hf=>?_))))
 · cases hf; exact M 2 rfl ⟨rfl,_,⟨_,_,rfl,rfl,_,_,rfl,rfl,rfl⟩,[],List.nil_sublist _,h⟩
 refine B1 hf fun e1 h3 hf=>W 1 Z (CL Z (ER _ h3 (J 3 Z (C hf Z (fun h4 hf=>?_) fun h4 hf=>?_))))
 · cases hf; exact M 3 rfl ⟨rfl,_,⟨_,_,rfl,rfl,_,_,rfl,rfl,rfl⟩,[],List.nil_sublist _,h⟩
 refine V 4 Z (C hf Z (fun h5 hf=>?_) fun h5 hf=>?_)
 · cases hf; exact M 2 rfl ⟨rfl,_,⟨_,_,rfl,rfl,_,_,rfl,rfl,rfl⟩,[],List.nil_sublist _,h⟩
 refine V 2 Z (C hf Z (fun h6 hf=>?_) fun h6 hf=>?_)
 · cases hf; exact M 4 rfl ⟨rfl,_,⟨_,_,rfl,rfl,_,_,rfl,rfl,rfl⟩,[],List.nil_sublist _,h⟩
 refine B1 hf fun x1 h7 hf=>W 1 Z (CL Z (Tv _ h7 ?_)); cases hf; exact N 2 rfl ⟨rfl,_,⟨_,_,rfl,rfl,_,_,rfl,rfl,rfl⟩,[],List.nil_sublist _,h⟩

theorem OA (s1:Str) (Fh:UInt8) (Jf:UInt8) (pq:Int) {r0:Str} (hf:CV s1 Fh Jf pq=some r0) (h:Q (.ret (.str r0)) τ):PC 203 [.str s1,.int .u8 (Fh.toNat:Int),.int .u8 (Jf.toNat:Int),iP pq] τ Q:=by
 unfold CV at hf; refine BN 40 [.tmp 8] [0,1,2,3] Tryz.func203 Z Z Z Z Z (V 3 Z (AW.row 1 5 (Vf (fun b1 v1 i1=>[(0,.str s1),(1,.int .u8 (Fh.toNat:Int)),(2,.int .u8 (Jf.toNat:Int)),(3,iP pq),(9,.own v1 (List.map lg b1)),(10,iP i1)]) (fun b1 v1 i1=>[.row v1 (List.map lg b1).length 1 5]) (fun bW b1 v1 i1=>vv s1 Fh Jf pq bW b1 i1=some r0) BIG [] (.slice none 0 0) 0 Z Z hf (fun _ _ _ hz=>bQ hz) ?_))); intro bW b1 v1 i1 hf; rw [vv] at hf
 refine W 2 Z (AS Z (AO.bJ Z Z Z Z cu Z (J 1 Z (C hf Z (fun h1 hf=>?_) fun h1 hf=>?_))))
 ·
  refine B1 hf fun c1 h2 hf=>W 2 Z (AS Z (AO.fD h2 Z cu Z Z (U 5 Z (An 4 24 28 [0,1,2,3,9,10,11] (decide ((c1.toNat:Int)≤(Jf.toNat:Int))) Z Z Z Z (J 0 Z (C hf Z (fun h4 hf=>?_) fun h4 hf=>?_))))))
  · refine W 1 Z (AS Z (AO.Ao Z zK Ea Z Z (U 2 Z (AS Z (AO.DT Z Ea zK Z (U 3 Z (AS Z (AO.bq (List.map lg ([(Ft.byteOf (bS ((c1.toNat:Int) + pq)))]:List UInt8)) Z yw Z Z Z Z ?_)))))))); refine B1 hf fun b2 h5 hf=>AS Z (AO.eP (i:=0) (l:=b1) (m:=([(Ft.byteOf (bS ((c1.toNat:Int) + pq)))]:List UInt8)) h5 Z Z Z Z Z Z Z yw YE Z Z Z (fun _=>Z) (fun _=>Z) (by decide) (fun v2 s2 hs2=>?_)); cases hs2; exact N 4 Z ⟨b2,v2,(bS (i1 + 1)),Z,Z,Z,hf⟩
  refine W 2 Z (AS Z (AO.bq (List.map lg ([c1]:List UInt8)) Z yw Z Z Z Z ?_)); refine B1 hf fun b3 h6 hf=>AS Z (AO.eP (i:=0) (l:=b1) (m:=([c1]:List UInt8)) h6 Z Z Z Z Z Z Z yw YE Z Z Z (fun _=>Z) (fun _=>Z) (by decide) (fun v3 s3 hs3=>?_)); cases hs3; exact N 4 Z ⟨b3,v3,(bS (i1 + 1)),Z,Z,Z,hf⟩
 refine W 1 Z (AS Z (AO.oC Z FD zK cu Z Z ?_)); cases hf; exact N 1 Z (Y Z h)

theorem U4 (s1:Str) {r0:Int} {r1:Bool} (hf:J2 s1=some (r0,r1)) (h:Q (.ret (.tuple [iP r0,.bool r1])) τ):PC 263 [.str s1] τ Q:=by
 unfold J2 at hf; refine BN 45 [.tmp 2,.tmp 3] [0] Tryz.func263 Z Z Z Z Z (W 5 Z (AR.or 4 8 12 [0] (x:=(decide (16 < (s1.length:Int)))) Z Z (fun h1=>?_) (fun h1=>?_) ?_))
 · refine Is 8 h1 Z (U 1 Z (GO Z (AO.bJ Z Z Z Z cu Z ?_))); exact eU 2 Z (En [12,0] Z)
 · refine Is 8 h1 Z ?_; exact eU 4 Z (En [12,0] Z)
 refine B1 hf fun b1 h3 hf=>U 1 Z (AR.eX 9 13 22 false [0] b1 Z Z (fun h2=>?_) (fun h2=>?_) ?_)
 ·
  replace h3:=eF h2 h3; refine Is 13 h2 Z (U 1 Z (GO Z (AO.bJ Z Z Z Z cu Z ?_))); replace h3:=(aJ _).trans h3; obtain ⟨b2,h5,h3⟩:=aN h3; refine U 2 Z (AR.eX 4 17 21 true [0,13] b2 Z Z (fun h4=>?_) (fun h4=>?_) ?_)
  · replace h5:=eD h4 h5; refine Is 17 h4 Z ?_; obtain ⟨x1,h6,h5⟩:=aN h5; refine U 1 Z (GO Z (AO.fD h6 Z cu Z Z ?_)); obtain rfl:=Option.some.inj h5; exact eU 2 Z (En [21,0,13] Z)
  · replace h5:=eF h4 h5; refine Is 17 h4 Z ?_; obtain rfl:=Option.some.inj h5; exact eU 4 Z (En [21,0,13] Z)
  obtain rfl:=Option.some.inj h3; exact eU 1 Z (En [22,0] Z)
 · replace h3:=eD h2 h3; refine Is 13 h2 Z ?_; obtain rfl:=Option.some.inj h3; exact eU 9 Z (En [22,0] Z)
 refine J 0 Z (C hf Z (fun h7 hf=>?_) fun h7 hf=>?_)
 · cases hf; exact M 2 rfl ⟨rfl,_,⟨_,_,rfl,rfl,_,_,rfl,rfl,rfl⟩,[],List.nil_sublist _,h⟩
 refine V 2 Z (Zf (fun n1 i1=>[(0,.str s1),(4,iP n1),(5,iP i1)]) (fun n1 i1=>[]) (fun bW n1 i1=>zV s1 bW n1 i1=some (r0,r1)) BIG 0 0 Z Z hf (fun _ _ hz=>bQ hz) ?_); intro bW n1 i1 hf; rw [zV] at hf; refine W 2 Z (AS Z (AO.bJ Z Z Z Z cu Z (J 1 Z (C hf Z (fun h8 hf=>?_) fun h8 hf=>?_))))
 ·
  refine B1 hf fun x2 h9 hf=>W 2 Z (AS Z (AO.fD h9 Z cu Z Z ?_)); refine B1 hf fun x3 h10 hf=>CL Z (OC _ h10 (J 1 Z (C hf Z (fun h11 hf=>?_) fun h11 hf=>?_)))
  · cases hf; exact M 2 rfl ⟨rfl,_,⟨_,_,rfl,rfl,_,_,rfl,rfl,rfl⟩,[],List.nil_sublist _,h⟩
  refine B1 hf fun x4 h12 hf=>W 4 Z (AS Z (AO.fD h12 Z cu Z Z (AS Z (AO.Ao Z zK Ea Z Z ?_)))); exact N 6 Z ⟨(bS ((bS ((bS (10 * n1)) + (x4.toNat:Int))) - 48)),(bS (i1 + 1)),Z,Z,Z,hf⟩
 cases hf; exact M 5 rfl ⟨rfl,_,⟨_,_,rfl,rfl,_,_,rfl,rfl,rfl⟩,[],List.nil_sublist _,h⟩

theorem WS (s1:Str) {r0:Int} {r1:Bool} (hf:xg s1=some (r0,r1)) (h:Q (.ret (.tuple [iP r0,.bool r1])) τ):PC 204 [.str s1] τ Q:=by
 unfold xg at hf; refine BN 30 [.tmp 2,.tmp 3] [0] Tryz.func204 Z Z Z Z Z ?_; refine B1 hf fun b1 h2 hf=>W 5 Z (AR.eX 4 8 12 true [0] b1 Z Z (fun h1=>?_) (fun h1=>?_) ?_)
 · replace h2:=eD h1 h2; refine Is 8 h1 Z ?_; obtain ⟨x1,h3,h2⟩:=aN h2; refine U 1 Z (GO Z (AO.fD h3 Z cu Z Z ?_)); obtain rfl:=Option.some.inj h2; exact eU 2 Z (En [12,0] Z)
 · replace h2:=eF h1 h2; refine Is 8 h1 Z ?_; obtain rfl:=Option.some.inj h2; exact eU 4 Z (En [12,0] Z)
 refine J 0 Z (C hf Z (fun h4 hf=>?_) fun h4 hf=>?_)
 · refine B1 hf fun x2 h5 hf=>W 1 Z (AS Z (AO.nL h5 Z cu Z ⟨_,Z⟩ Z ?_)); obtain ⟨n1,ok1,h6,hf⟩:=aY hf; refine CL Z (U4 _ h6 (U 9 Z (An 3 22 25 [20] (n1 != 0) Z Z Z Z ?_))); cases hf; exact N 2 rfl ⟨rfl,_,⟨_,_,rfl,rfl,_,_,rfl,rfl,rfl⟩,[],List.nil_sublist _,h⟩
 replace hf:=(gH _).trans hf; obtain ⟨x3,x4,h8,hf⟩:=aY hf; refine W 1 Z (CL Z (U4 _ h8 ?_)); cases hf; exact N 4 rfl ⟨rfl,_,⟨_,_,rfl,rfl,_,_,rfl,rfl,rfl⟩,[],List.nil_sublist _,h⟩

theorem acG (name1:Str) (a1:ah) {r0:ah} {r1:Int} (hf:L6 name1 a1=some (r0,r1)) (h:Q (.ret (.tuple [.agg (aF r0),iP r1])) τ):PC 135 [.str name1,.agg (aF a1)] τ Q:=by
 unfold L6 at hf; refine BN 102 [.cell 4 25,.tmp 5] [0,1] Tryz.func135 Z Z Z Z Z (W 1 Z (AS Z (AO.aH Z eY (fun b4=>(U 4 Z (An 4 14 18 [0,3,4] (decide (3≤a1.kind)) Z Z Z Z (J 0 Z (C hf Z (fun h2 hf=>?_) fun h2 hf=>?_))))))))
 · refine W 2 Z (AS Z (AO.bJ Z Z Z Z cu Z (U 2 Z (AS Z (AO.aL (l:=a1.aI) Z Z Z Z dN Z (ah.aB _) ?_))))); cases hf; exact Rx 4 [0] rfl rfl ⟨rfl,_,⟨_,_,rfl,⟨_,_,0,_,_,rfl,rfl,bY,rfl⟩,_,_,rfl,rfl,rfl⟩,[],List.nil_sublist _,h⟩
 refine W 3 Z (An 4 29 33 [0,3,4] (a1.kind == 5) Z Z Z Z (J 0 Z (C hf Z (fun h4 hf=>?_) fun h4 hf=>?_)))
 ·
  refine W 1 Z (AS Z (AO.aH Z eY (fun b6=>?_)))
  refine Rw 2 [0] Z Z (AW.row 6 25 (AW.settle [3,4,6,7] Z (AW.Bh 1 [false,false,false,false,false,true] Z (Vf (fun i1 v1 v2=>[(3,.ref (aF a1)),(4,pP b4),(6,pP b6),(7,iP i1)]) (fun i1 v1 v2=>[.row v2 (ah.bn v1.aI).length 6 25,.box b6 [iP v1.kind,.bool v1.dh,iP v1.bZ,.str v1.bI,.own v2 (ah.bn v1.aI),sP v1.keys],.box b4 [iP 0,.bool false,iP 0,.str ([]:Str),.own (.slice none 0 0) [],.own (.slice none 0 0) []]]) (fun bW i1 v1 v2=>zS a1 bW i1 v1=some (r0,r1)) BIG 0 (ah.mk 4 false 0 ([]:Str) [] []) (.slice none 0 0) Z Z hf (fun _ _ _ hz=>bQ hz) ?_))))
  intro bW i1 v1 v2 hf; rw [zS] at hf; refine W 3 Z (AS Z (AO.aL (l:=a1.keys) Z Z Z Z dO Z Z (J 1 Z (C hf Z (fun h5 hf=>?_) fun h5 hf=>?_))))
  ·
   refine V 0 Z (AW.draw 9 mixed (by kernel_rfl) Z ?_); refine Ev.cs aP 1 Z (Ev.cons Z Z Z (AO.bV (i:=1) Z Z Z Oi Z Z zg) (Ev.cs aP 3 Z ?_)); refine B1 hf fun e1 h6 hf=>Ev.cons Z Z Z (AO.aM h6 Z Z Z Z dO Z Z zg) (Ev.cs aP 1 Z ?_); refine B1 hf fun x1 h7 hf=>Ev.cons rfl rfl rfl (AO.call rfl _ rfl rfl adQ (vN _ h7 ⟨rfl,rfl⟩)) (Ev.cons rfl rfl rfl (AO.bq (ah.bn [x1]) rfl oW rfl rfl rfl (by first | rfl | simp only [List.map,ah.aG,ah.bn]) ⟨rfl,rfl⟩) ?_)
   refine Ev.nil ?_; show AR _ _ _ _ _ _ _ _
   refine B1 hf fun x2 h8 hf=>AS Z (AO.eP (i:=0) (l:=v1.aI) (m:=[x1]) h8 Z Z Z Z Z Z Z oW dN (ah.aB _) (ah.aB _) (ah.aB _).symm (ah.dV) (ah.cells_one) (by decide) (fun v3 s1 hs1=>?_)); cases hs1; exact Rx 5 [1] Z Z ⟨(bS (i1 + 1)),(ah.mk v1.kind v1.dh v1.bZ v1.bI x2 v1.keys),v3,Z,Z,Z,hf⟩
  cases hf; exact Wx 3 [1,2] rfl rfl ⟨rfl,_,⟨_,_,rfl,⟨_,_,2,_,_,rfl,rfl,bY,rfl⟩,_,_,rfl,rfl,rfl⟩,[],List.nil_sublist _,h⟩
 refine V 2 Z (C hf Z (fun h9 hf=>?_) fun h9 hf=>?_)
 ·
  obtain ⟨s2,e2,h10,hf⟩:=aY hf; refine W 1 Z (CL Z (aau _ h10 (J 7 Z (C hf Z (fun h11 hf=>?_) fun h11 hf=>?_))))
  · cases hf; exact Wx 4 [0] rfl rfl ⟨rfl,_,⟨_,_,rfl,⟨_,_,0,_,_,rfl,rfl,bY,rfl⟩,_,_,rfl,rfl,rfl⟩,[],List.nil_sublist _,h⟩
  refine B1 hf fun x3 h12 hf=>W 1 Z (CL Z (vN _ h12 ?_)); cases hf; exact Rx 2 [0] rfl rfl ⟨rfl,_,⟨_,_,rfl,⟨_,_,0,_,_,rfl,rfl,bY,rfl⟩,_,_,rfl,rfl,rfl⟩,[],List.nil_sublist _,h⟩
 refine W 4 Z (On 3 70 73 [0,3,4] (name1 == ([108,101,110]:Str)) Z Z Z Z (U 1 Z (On 3 74 77 [0,3,4] (name1 == ([107,101,121,115]:Str)) Z Z Z Z (J 0 Z (C hf Z (fun kC hf=>?_) fun kC hf=>?_)))))
 · cases hf; exact Wx 3 [0] rfl rfl ⟨rfl,_,⟨_,_,rfl,⟨_,_,0,_,_,rfl,rfl,bY,rfl⟩,_,_,rfl,rfl,rfl⟩,[],List.nil_sublist _,h⟩
 refine V 2 Z (C hf Z (fun h16 hf=>?_) fun h16 hf=>?_)
 · refine B1 hf fun x4 mQ hf=>W 2 Z (CL Z (OA _ _ _ _ mQ ?_)); refine B1 hf fun x5 h18 hf=>CL Z (vN _ h18 ?_); cases hf; exact Rx 2 [0] rfl rfl ⟨rfl,_,⟨_,_,rfl,⟨_,_,0,_,_,rfl,rfl,bY,rfl⟩,_,_,rfl,rfl,rfl⟩,[],List.nil_sublist _,h⟩
 refine V 2 Z (C hf Z (fun h19 hf=>?_) fun h19 hf=>?_)
 · refine B1 hf fun x6 h20 hf=>W 2 Z (CL Z (OA _ _ _ _ h20 ?_)); refine B1 hf fun x7 h21 hf=>CL Z (vN _ h21 ?_); cases hf; exact Rx 2 [0] rfl rfl ⟨rfl,_,⟨_,_,rfl,⟨_,_,0,_,_,rfl,rfl,bY,rfl⟩,_,_,rfl,rfl,rfl⟩,[],List.nil_sublist _,h⟩
 obtain ⟨n1,ok1,h22,hf⟩:=aY hf; refine W 2 Z (CL Z (WS _ h22 (J 7 Z (C hf Z (fun h23 hf=>?_) fun h23 hf=>?_))))
 · cases hf; exact Wx 3 [0] rfl rfl ⟨rfl,_,⟨_,_,rfl,⟨_,_,0,_,_,rfl,rfl,bY,rfl⟩,_,_,rfl,rfl,rfl⟩,[],List.nil_sublist _,h⟩
 cases hf; exact Wx 4 [0] rfl rfl ⟨rfl,_,⟨_,_,rfl,⟨_,_,0,_,_,rfl,rfl,bY,rfl⟩,_,_,rfl,rfl,rfl⟩,[],List.nil_sublist _,h⟩

theorem xB (PN:Bool) {r0:Int} (hf:mW PN=some r0) (h:Q (.ret (iP r0)) τ):PC 146 [.bool PN] τ Q:=by
 unfold mW at hf; refine BN 4 [.tmp 2] [0] Tryz.func146 Z Z Z Z Z (V 2 Z (C hf Z (fun h1 hf=>?_) fun h1 hf=>?_))
 · cases hf; exact M 1 Z (Y Z h)
 cases hf; exact M 1 Z (Y Z h)

theorem Y2 (a1:List Str) (b1:List Str) {r0:Int} (hf:FT a1 b1=some r0) (h:Q (.ret (iP r0)) τ):PC 148 [sP a1,sP b1] τ Q:=by
 unfold FT at hf; refine BN 44 [.tmp 4] [0,1] Tryz.func148 Z Z Z Z Z (V 2 Z (Gc (fun i1=>[(0,sP a1),(1,sP b1),(5,iP i1)]) (fun i1=>[]) (fun bW i1=>vC a1 b1 bW i1=some r0) BIG 0 Z Z hf (fun _ hz=>bQ hz) ?_)); intro bW i1 hf; rw [vC] at hf; refine W 2 Z (AS Z (AO.aL (l:=a1) Z Z Z Z dO Z Z (U 2 Z (AR.and 5 11 16 [0,1,5] (x:=(decide (i1 < (b1.length:Int)))) Z Z (fun h1=>?_) (fun h1=>?_) ?_))))
 · refine Is 11 h1 Z (U 2 Z (GO Z (AO.aL (l:=b1) Z Z Z Z dO Z Z ?_))); exact eU 2 Z (En [16,0,1,5] Z)
 · refine Is 11 h1 Z ?_; exact eU 5 Z (En [16,0,1,5] Z)
 refine J 0 Z (C hf Z (fun h2 hf=>?_) fun h2 hf=>?_)
 ·
  refine V 0 Z (AW.draw 10 mixed (by kernel_rfl) Z ?_); refine Ev.cs aP 2 Z ?_; refine B1 hf fun e1 h3 hf=>Ev.cons Z Z Z (AO.aM h3 Z Z Z Z dO Z Z zg) (Ev.cs aP 3 Z ?_); refine B1 hf fun e2 h4 hf=>Ev.cons Z Z Z (AO.aM h4 Z Z Z Z dO Z Z zg) (Ev.cs aP 1 Z ?_); refine B1 hf fun c1 h5 hf=>Ev.cons Z Z Z (AO.call Z _ Z Z aa3 (Bc _ _ h5 zg)) (Ev.cs aP 1 Z (Ev.nil ?_)); show AR _ _ _ _ _ _ _ _
  refine J 2 Z (C hf Z (fun h6 hf=>?_) fun h6 hf=>?_)
  · replace hf:=(aJ _).trans hf; refine B1 hf fun x1 h7 hf=>W 2 Z (CL Z (xB _ h7 ?_)); cases hf; exact N 1 Z (Y Z h)
  exact M 3 Z ⟨(bS (i1 + 1)),Z,Z,Z,hf⟩
 refine W 1 Z (AS Z (AO.aL (l:=a1) Z Z Z Z dO Z Z (U 1 Z (AS Z (AO.aL (l:=b1) Z Z Z Z dO Z Z (J 1 Z (C hf Z (fun h8 hf=>?_) fun h8 hf=>?_)))))))
 · cases hf; exact M 1 Z (Y Z h)
 refine W 1 Z (AS Z (AO.aL (l:=a1) Z Z Z Z dO Z Z (U 1 Z (AS Z (AO.aL (l:=b1) Z Z Z Z dO Z Z ?_))))); replace hf:=(aJ _).trans hf; refine B1 hf fun x2 h9 hf=>U 1 Z (CL Z (xB _ h9 ?_)); cases hf; exact N 1 Z (Y Z h)


abbrev Fy (iL:ah→ah→Option Int):Prop:=∀ (wR:ah) (wQ:ah) {aU:Int},iL wR wQ=some aU→∀ {τ:List bE} {Q:eZ→List bE→Prop} (h:Q (.ret (iP aU)) τ),PC 80 [.agg (aF wR),.agg (aF wQ)] τ Q
abbrev JJ (lM:List ah→List ah→Option Int):Prop:=∀ (wR:List ah) (wQ:List ah) {aU:Int},lM wR wQ=some aU→∀ {τ:List bE} {Q:eZ→List bE→Prop} (h:Q (.ret (iP aU)) τ),PC 147 [.list (ah.bn wR),.list (ah.bn wQ)] τ Q
theorem SH (iL) (Hz:Fy iL) (lM) (Fg:JJ lM) (a1:ah) (b1:ah) {r0:Int} (hf:AP iL lM a1 b1=some r0) (h:Q (.ret (iP r0)) τ):PC 80 [.agg (aF a1),.agg (aF b1)] τ Q:=by
 unfold AP at hf; refine BN 77 [.tmp 4] [0,1] Tryz.func80 Z Z Z Z Z (V 8 Z (C hf Z (fun h1 hf=>?_) fun h1 hf=>?_))
 · replace hf:=(aJ _).trans hf; refine B1 hf fun x1 h2 hf=>W 5 Z (CL Z (xB _ h2 ?_)); cases hf; exact N 1 Z (Y Z h)
 refine V 4 Z (C hf Z (fun h3 hf=>?_) fun h3 hf=>?_)
 ·
  refine W 4 Z (AS Z (AO.MX Z Zv Z Z (J 0 Z (C hf Z (fun h4 hf=>?_) fun h4 hf=>?_))))
  · replace hf:=(aJ _).trans hf; refine B1 hf fun x2 h5 hf=>W 2 Z (CL Z (xB _ h5 ?_)); cases hf; exact N 1 Z (Y Z h)
  cases hf; exact M 1 Z (Y Z h)
 refine V 2 Z (C hf Z (fun h6 hf=>?_) fun h6 hf=>?_)
 ·
  refine V 5 Z (C hf Z (fun h7 hf=>?_) fun h7 hf=>?_)
  · replace hf:=(aJ _).trans hf; refine B1 hf fun x3 h8 hf=>W 5 Z (CL Z (xB _ h8 ?_)); cases hf; exact N 1 Z (Y Z h)
  cases hf; exact M 1 Z (Y Z h)
 refine V 2 Z (C hf Z (fun h9 hf=>?_) fun h9 hf=>?_)
 ·
  refine V 5 Z (C hf Z (fun h10 hf=>?_) fun h10 hf=>?_)
  · replace hf:=(aJ _).trans hf; refine B1 hf fun x4 h11 hf=>W 5 Z (CL Z (xB _ h11 ?_)); cases hf; exact N 1 Z (Y Z h)
  cases hf; exact M 1 Z (Y Z h)
 refine V 2 Z (C hf Z (fun h12 hf=>?_) fun h12 hf=>?_)
 · replace hf:=(aJ _).trans hf; refine B1 hf fun x5 jq hf=>W 4 Z (CL Z (Fg _ _ jq ?_)); cases hf; exact N 1 Z (Y Z h)
 refine V 2 Z (C hf Z (fun kg hf=>?_) fun kg hf=>?_)
 ·
  refine B1 hf fun c1 kC hf=>W 4 Z (CL Z (Y2 _ _ kC (J 3 Z (C hf Z (fun h16 hf=>?_) fun h16 hf=>?_))))
  · cases hf; exact M 2 Z (Y Z h)
  replace hf:=(aJ _).trans hf; refine B1 hf fun x6 mQ hf=>W 4 Z (CL Z (Fg _ _ mQ ?_)); cases hf; exact N 1 Z (Y Z h)
 cases hf; exact M 1 Z (Y Z h)
theorem Xm (iL) (Hz:Fy iL) (lM) (Fg:JJ lM) (a1:List ah) (b1:List ah) {r0:Int} (hf:Es iL lM a1 b1=some r0) (h:Q (.ret (iP r0)) τ):PC 147 [.list (ah.bn a1),.list (ah.bn b1)] τ Q:=by
 unfold Es at hf; refine BN 42 [.tmp 4] [0,1] Tryz.func147 Z Z Z Z Z (V 2 Z (Gc (fun i1=>[(0,.list (ah.bn a1)),(1,.list (ah.bn b1)),(5,iP i1)]) (fun i1=>[]) (fun bW i1=>vD iL a1 b1 bW i1=some r0) BIG 0 Z Z hf (fun _ hz=>bQ hz) ?_)); intro bW i1 hf; rw [vD] at hf; refine W 2 Z (AS Z (AO.aL (l:=a1) Z Z Z Z dN Z (ah.aB _) (U 2 Z (AR.and 5 11 16 [0,1,5] (x:=(decide (i1 < (b1.length:Int)))) Z Z (fun h1=>?_) (fun h1=>?_) ?_))))
 · refine Is 11 h1 Z (U 2 Z (GO Z (AO.aL (l:=b1) Z Z Z Z dN Z (ah.aB _) ?_))); exact eU 2 Z (En [16,0,1,5] Z)
 · refine Is 11 h1 Z ?_; exact eU 5 Z (En [16,0,1,5] Z)
 refine J 0 Z (C hf Z (fun h2 hf=>?_) fun h2 hf=>?_)
 ·
  refine V 0 Z (AW.draw 10 mixed (by kernel_rfl) Z ?_); refine Ev.cs aP 2 Z ?_; refine B1 hf fun e1 h3 hf=>Ev.cons Z Z Z (AO.aM h3 Z Z (ah.aB _) Z dN (ah.aG _) Z zg) (Ev.cs aP 3 Z ?_); refine B1 hf fun e2 h4 hf=>Ev.cons Z Z Z (AO.aM h4 Z Z (ah.aB _) Z dN (ah.aG _) Z zg) (Ev.cs aP 1 Z ?_); refine B1 hf fun c1 h5 hf=>Ev.cons Z Z Z (AO.call Z _ Z Z ajp (Hz _ _ h5 zg)) (Ev.cs aP 1 Z (Ev.nil ?_)); show AR _ _ _ _ _ _ _ _
  refine J 2 Z (C hf Z (fun h6 hf=>?_) fun h6 hf=>?_)
  · cases hf; exact M 2 Z (Y Z h)
  exact M 3 Z ⟨(bS (i1 + 1)),Z,Z,Z,hf⟩
 refine W 1 Z (AS Z (AO.aL (l:=a1) Z Z Z Z dN Z (ah.aB _) (U 1 Z (AS Z (AO.aL (l:=b1) Z Z Z Z dN Z (ah.aB _) (J 1 Z (C hf Z (fun h7 hf=>?_) fun h7 hf=>?_)))))))
 · cases hf; exact M 1 Z (Y Z h)
 refine W 1 Z (AS Z (AO.aL (l:=a1) Z Z Z Z dN Z (ah.aB _) (U 1 Z (AS Z (AO.aL (l:=b1) Z Z Z Z dN Z (ah.aB _) ?_))))); replace hf:=(aJ _).trans hf; refine B1 hf fun x1 h8 hf=>U 1 Z (CL Z (xB _ h8 ?_)); cases hf; exact N 1 Z (Y Z h)
theorem Kr :∀ k:Nat,(Fy (jS k))∧(JJ (rE k)):=by
 intro k
 induction k with
 | zero=>exact ⟨fun _ _ _ hz=>by first | cases hz | (unfold jS at hz; cases hz),fun _ _ _ hz=>by first | cases hz | (unfold rE at hz; cases hz)⟩
 | succ k ih=>exact ⟨fun wR wQ aU hz τ Q hq=>SH (jS k) ih.1 (rE k) ih.2 wR wQ hz hq,fun wR wQ aU hz τ Q hq=>Xm (jS k) ih.1 (rE k) ih.2 wR wQ hz hq⟩
theorem Tx (wR:ah) (wQ:ah) {aU:Int} (hf:Ew wR wQ=some aU) (h:Q (.ret (iP aU)) τ):PC 80 [.agg (aF wR),.agg (aF wQ)] τ Q:=
 ((Kr BIG).1) wR wQ hf h
theorem ahb (wR:List ah) (wQ:List ah) {aU:Int} (hf:ab8 wR wQ=some aU) (h:Q (.ret (iP aU)) τ):PC 147 [.list (ah.bn wR),.list (ah.bn wQ)] τ Q:=
 ((Kr BIG).2) wR wQ hf h

theorem Jy (a1:ah) (b1:ah) {r0:Bool} (hf:sJ a1 b1=some r0) (h:Q (.ret (.bool r0)) τ):PC 43 [.agg (aF a1),.agg (aF b1)] τ Q:=by
 unfold sJ at hf; refine BN 9 [.tmp 4] [0,1] Tryz.func43 Z Z Z Z Z ?_; refine B1 hf fun x1 h1 hf=>W 5 Z (CL Z (Tx _ _ h1 ?_)); cases hf; exact N 2 Z (Y Z h)

theorem nQ (b1:Bool) {r0:ah} (hf:jA b1=some r0) (h:Q (.ret (.agg (aF r0))) τ):PC 137 [.bool b1] τ Q:=by
 unfold jA at hf; refine BN 5 [.cell 2 25] [0] Tryz.func137 Z Z Z Z Z (W 0 Z (AS Z (AO.aH Z eY (fun b2=>?_)))); cases hf; exact Rx 3 [0] Z Z (ZC [0] Z Z h)

theorem Lg (s1:Str) (t1:Str) (EI:Int) {r0:Int} (hf:Dj s1 t1 EI=some r0) (h:Q (.ret (iP r0)) τ):PC 264 [.str s1,.str t1,iP EI] τ Q:=by
 unfold Dj at hf; refine BN 28 [.tmp 6] [0,1,2] Tryz.func264 Z Z Z Z Z (V 3 Z (Gc (fun i1=>[(0,.str s1),(1,.str t1),(7,iP i1)]) (fun i1=>[]) (fun bW i1=>xD s1 t1 bW i1=some r0) BIG EI Z Z hf (fun _ hz=>bQ hz) ?_)); intro bW i1 hf; rw [xD] at hf; refine W 2 Z (AS Z (AO.bJ Z Z Z Z cu Z (U 2 Z (AS Z (AO.bJ Z Z Z Z cu Z (J 1 Z (C hf Z (fun h1 hf=>?_) fun h1 hf=>?_)))))))
 ·
  refine W 4 Z (AS Z (AO.bJ Z Z Z Z cu Z ?_)); refine B1 hf fun x1 h2 hf=>U 1 Z (AS Z (AO.nL h2 Z cu Z ⟨_,Z⟩ ⟨_,Z⟩ (J 2 Z (C hf Z (fun h3 hf=>?_) fun h3 hf=>?_))))
  · cases hf; exact M 2 Z (Y Z h)
  exact M 3 Z ⟨(bS (i1 + 1)),Z,Z,Z,hf⟩
 cases hf; exact M 1 Z (Y Z h)

theorem RP (a1:ah) (b1:ah) {r0:ah} {r1:Int} (hf:yB a1 b1=some (r0,r1)) (h:Q (.ret (.tuple [.agg (aF r0),iP r1])) τ):PC 205 [.agg (aF a1),.agg (aF b1)] τ Q:=by
 unfold yB at hf; refine BN 61 [.cell 4 25,.tmp 5] [0,1] Tryz.func205 Z Z Z Z Z (W 2 Z (AS Z (AO.aH Z eY (fun b4=>(J 4 Z (C hf Z (fun h1 hf=>?_) fun h1 hf=>?_))))))
 ·
  refine V 1 Z (Gc (fun i1=>[(2,.ref (aF a1)),(3,.ref (aF b1)),(4,pP b4),(6,iP i1)]) (fun i1=>[.box b4 [iP 0,.bool false,iP 0,.str ([]:Str),.own (.slice none 0 0) [],.own (.slice none 0 0) []]]) (fun bW i1=>pF a1 b1 bW i1=some (r0,r1)) BIG 0 Z Z hf (fun _ hz=>bQ hz) ?_); intro bW i1 hf; rw [pF] at hf; refine W 3 Z (AS Z (AO.aL (l:=a1.aI) Z Z Z Z dN Z (ah.aB _) (J 1 Z (C hf Z (fun h2 hf=>?_) fun h2 hf=>?_))))
  ·
   refine V 0 Z (AW.draw 7 mixed (by kernel_rfl) Z ?_); refine Ev.cs aP 3 Z ?_; refine B1 hf fun e1 h3 hf=>Ev.cons Z Z Z (AO.aM h3 Z Z (ah.aB _) Z dN (ah.aG _) Z zg) (Ev.cs aP 2 Z ?_); refine B1 hf fun x1 h4 hf=>Ev.cons Z Z Z (AO.call Z _ Z Z agN (Jy _ _ h4 zg)) (Ev.nil ?_); show AR _ _ _ _ _ _ _ _
   refine J 0 Z (C hf Z (fun h5 hf=>?_) fun h5 hf=>?_)
   · refine B1 hf fun x2 h6 hf=>W 0 Z (CL Z (nQ _ h6 ?_)); cases hf; exact Rx 2 [0] rfl rfl ⟨rfl,_,⟨_,_,rfl,⟨_,_,0,_,_,rfl,rfl,bY,rfl⟩,_,_,rfl,rfl,rfl⟩,[],List.nil_sublist _,h⟩
   exact M 3 Z ⟨(bS (i1 + 1)),Z,Z,Z,hf⟩
  refine B1 hf fun x3 h7 hf=>W 0 Z (CL Z (nQ _ h7 ?_)); cases hf; exact Rx 2 [0] rfl rfl ⟨rfl,_,⟨_,_,rfl,⟨_,_,0,_,_,rfl,rfl,bY,rfl⟩,_,_,rfl,rfl,rfl⟩,[],List.nil_sublist _,h⟩
 refine W 4 Z (AR.or 9 31 40 [2,3,4] (x:=((a1.kind != 3) && (a1.kind != 5))) Z Z (fun h8=>?_) (fun h8=>?_) ?_)
 · refine Is 31 h8 Z (U 4 Z (An 4 35 39 [2,3,4,31] (a1.kind != 5) Z Z Z Z ?_)); exact eU 1 Z (En [40,2,3,4] Z)
 · refine Is 31 h8 Z ?_; exact eU 9 Z (En [40,2,3,4] Z)
 refine J 0 Z (C hf Z (fun h10 hf=>?_) fun h10 hf=>?_)
 · cases hf; exact Wx 3 [0] rfl rfl ⟨rfl,_,⟨_,_,rfl,⟨_,_,0,_,_,rfl,rfl,bY,rfl⟩,_,_,rfl,rfl,rfl⟩,[],List.nil_sublist _,h⟩
 refine V 3 Z (C hf Z (fun h11 hf=>?_) fun h11 hf=>?_)
 · obtain ⟨x4,ok1,h12,hf⟩:=aY hf; refine W 3 Z (CL Z (NN _ _ h12 (U 3 Z (AS Z (AO.aH Z eY (fun b7=>?_)))))); refine B1 hf fun x5 jq hf=>Rr 3 [0] Z Z (CL Z (nQ _ jq ?_)); cases hf; exact Rx 2 [1] rfl rfl ⟨rfl,_,⟨_,_,rfl,⟨_,_,1,_,_,rfl,rfl,bY,rfl⟩,_,_,rfl,rfl,rfl⟩,[],List.nil_sublist _,h⟩
 refine B1 hf fun x6 kg hf=>W 4 Z (CL Z (Lg _ _ _ kg ?_)); refine B1 hf fun x7 kC hf=>U 1 Z (CL Z (nQ _ kC ?_)); cases hf; exact Rx 2 [0] rfl rfl ⟨rfl,_,⟨_,_,rfl,⟨_,_,0,_,_,rfl,rfl,bY,rfl⟩,_,_,rfl,rfl,rfl⟩,[],List.nil_sublist _,h⟩


abbrev M5 (lC:ah→Option Int):Prop:=∀ (rZ:ah) {aU:Int},lC rZ=some aU→∀ {τ:List bE} {Q:eZ→List bE→Prop} (h:Q (.ret (iP aU)) τ),PC 211 [.agg (aF rZ)] τ Q
theorem Vr (lC) (Q_:M5 lC) (v1:ah) {r0:Int} (hf:Cm lC v1=some r0) (h:Q (.ret (iP r0)) τ):PC 211 [.agg (aF v1)] τ Q:=by
 unfold Cm at hf; refine BN 30 [.tmp 2] [0] Tryz.func211 Z Z Z Z Z (W 6 Z (An 4 8 12 [1] (v1.kind != 5) Z Z Z Z (J 0 Z (C hf Z (fun h2 hf=>?_) fun h2 hf=>?_))))
 · cases hf; exact M 1 Z (Y Z h)
 refine V 2 Z (Zf (fun n1 i1=>[(1,.ref (aF v1)),(3,iP n1),(4,iP i1)]) (fun n1 i1=>[]) (fun bW n1 i1=>wC lC v1 bW n1 i1=some r0) BIG 2 0 Z Z hf (fun _ _ hz=>bQ hz) ?_); intro bW n1 i1 hf; rw [wC] at hf; refine W 3 Z (AS Z (AO.aL (l:=v1.aI) Z Z Z Z dN Z (ah.aB _) (J 1 Z (C hf Z (fun h3 hf=>?_) fun h3 hf=>?_))))
 · refine B1 hf fun e1 h4 hf=>W 4 Z (AS Z (AO.aM h4 Z Z (ah.aB _) Z dN (ah.aG _) Z ?_)); refine B1 hf fun x1 h5 hf=>U 1 Z (CL Z (Q_ _ h5 (U 1 Z (AS Z (AO.max2 Z Z Z Z Z ?_))))); exact N 4 Z ⟨(if n1 < (bS (1 + x1)) then (bS (1 + x1)) else n1),(bS (i1 + 1)),Z,Z,Z,hf⟩
 cases hf; exact M 2 Z (Y Z h)
theorem VZ :∀ k:Nat,(M5 (nV k)):=by
 intro k
 induction k with
 | zero=>exact fun _ _ hz=>by first | cases hz | (unfold nV at hz; cases hz)
 | succ k ih=>exact fun rZ aU hz τ Q hq=>Vr (nV k) ih rZ hz hq
theorem MP (rZ:ah) {aU:Int} (hf:Dm rZ=some aU) (h:Q (.ret (iP aU)) τ):PC 211 [.agg (aF rZ)] τ Q:=
 ((VZ BIG)) rZ hf h

theorem mP (v1:ah) {r0:ah} {r1:Int} (hf:jN v1=some (r0,r1)) (h:Q (.ret (.tuple [.agg (aF r0),iP r1])) τ):PC 139 [.agg (aF v1)] τ Q:=by
 unfold jN at hf; refine BN 29 [.cell 2 25,.tmp 3] [0] Tryz.func139 Z Z Z Z Z (W 1 Z (AS Z (AO.aH Z eY (fun b2=>(U 5 Z (On 4 7 11 [1,2] (decide (9007199254740992 < v1.bZ)) Z Z Z Z (J 0 Z (C hf Z (fun h2 hf=>?_) fun h2 hf=>?_))))))))
 · cases hf; exact Wx 3 [0] rfl rfl ⟨rfl,_,⟨_,_,rfl,⟨_,_,0,_,_,rfl,rfl,bY,rfl⟩,_,_,rfl,rfl,rfl⟩,[],List.nil_sublist _,h⟩
 refine W 2 Z (AS Z (AO.bJ Z Z Z Z cu Z (U 2 Z (AR.or 5 17 22 [1,2] (x:=(decide (1024 < (v1.aI.length:Int)))) Z Z (fun h3=>?_) (fun h3=>?_) ?_))))
 · refine Is 17 h3 Z (U 2 Z (GO Z (AO.aL (l:=v1.aI) Z Z Z Z dN Z (ah.aB _) ?_))); exact eU 2 Z (En [22,1,2] Z)
 · refine Is 17 h3 Z ?_; exact eU 5 Z (En [22,1,2] Z)
 refine J 0 Z (C hf Z (fun h4 hf=>?_) fun h4 hf=>?_)
 · cases hf; exact Wx 3 [0] rfl rfl ⟨rfl,_,⟨_,_,rfl,⟨_,_,0,_,_,rfl,rfl,bY,rfl⟩,_,_,rfl,rfl,rfl⟩,[],List.nil_sublist _,h⟩
 refine B1 hf fun x1 h5 hf=>W 1 Z (CL Z (MP _ h5 (J 1 Z (C hf Z (fun h6 hf=>?_) fun h6 hf=>?_))))
 · cases hf; exact Wx 3 [0] rfl rfl ⟨rfl,_,⟨_,_,rfl,⟨_,_,0,_,_,rfl,rfl,bY,rfl⟩,_,_,rfl,rfl,rfl⟩,[],List.nil_sublist _,h⟩
 cases hf; exact Wx 3 [0] rfl rfl ⟨rfl,_,⟨_,_,rfl,⟨_,_,0,_,_,rfl,rfl,bY,rfl⟩,_,_,rfl,rfl,rfl⟩,[],List.nil_sublist _,h⟩

theorem aan (a1:ah) (b1:ah) {r0:ah} {r1:Int} (hf:IJ a1 b1=some (r0,r1)) (h:Q (.ret (.tuple [.agg (aF r0),iP r1])) τ):PC 206 [.agg (aF a1),.agg (aF b1)] τ Q:=by
 unfold IJ at hf; refine BN 51 [.cell 4 25,.tmp 5] [0,1] Tryz.func206 Z Z Z Z Z (W 2 Z (AS Z (AO.aH Z eY (fun b4=>(U 5 Z (On 4 11 15 [2,3,4] (b1.kind != 3) Z Z Z Z (J 0 Z (C hf Z (fun h2 hf=>?_) fun h2 hf=>?_))))))))
 · cases hf; exact Wx 3 [0] rfl rfl ⟨rfl,_,⟨_,_,rfl,⟨_,_,0,_,_,rfl,rfl,bY,rfl⟩,_,_,rfl,rfl,rfl⟩,[],List.nil_sublist _,h⟩
 refine V 2 Z (Zf (fun s1 i1=>[(2,.ref (aF a1)),(3,.ref (aF b1)),(4,pP b4),(6,.str s1),(7,iP i1)]) (fun s1 i1=>[.box b4 [iP 0,.bool false,iP 0,.str ([]:Str),.own (.slice none 0 0) [],.own (.slice none 0 0) []]]) (fun bW s1 i1=>rD a1 b1 bW s1 i1=some (r0,r1)) BIG ([]:Str) 0 Z Z hf (fun _ _ hz=>bQ hz) ?_); intro bW s1 i1 hf; rw [rD] at hf; refine W 3 Z (AS Z (AO.aL (l:=a1.aI) Z Z Z Z dN Z (ah.aB _) (J 1 Z (C hf Z (fun h3 hf=>?_) fun h3 hf=>?_))))
 ·
  refine B1 hf fun e1 h4 hf=>W 3 Z (AS Z (AO.aM h4 Z Z (ah.aB _) Z dN (ah.aG _) Z (J 3 Z (C hf Z (fun h5 hf=>?_) fun h5 hf=>?_))))
  · cases hf; exact Wx 3 [0] rfl rfl ⟨rfl,_,⟨_,_,rfl,⟨_,_,0,_,_,rfl,rfl,bY,rfl⟩,_,_,rfl,rfl,rfl⟩,[],List.nil_sublist _,h⟩
  refine V 2 Z (C hf Z (fun h6 hf=>?_) fun h6 hf=>?_)
  · refine B1 hf fun s2 h7 hf=>W 3 Z (AS Z (AO.kN h7 Z Z Z ?_)); refine B1 hf fun e2 h8 hf=>U 5 Z (AS Z (AO.aM h8 Z Z (ah.aB _) Z dN (ah.aG _) Z ?_)); refine B1 hf fun s3 h9 hf=>U 2 Z (AS Z (AO.kN h9 Z Z Z ?_)); exact N 4 Z ⟨s3,(bS (i1 + 1)),Z,Z,Z,hf⟩
  refine B1 hf fun e3 h10 hf=>W 4 Z (AS Z (AO.aM h10 Z Z (ah.aB _) Z dN (ah.aG _) Z ?_)); refine B1 hf fun s4 h11 hf=>U 2 Z (AS Z (AO.kN h11 Z Z Z ?_)); exact N 4 Z ⟨s4,(bS (i1 + 1)),Z,Z,Z,hf⟩
 refine B1 hf fun x1 h12 hf=>W 1 Z (CL Z (vN _ h12 ?_)); replace hf:=(gH _).trans hf; obtain ⟨x2,x3,jq,hf⟩:=aY hf; refine CL Z (mP _ jq ?_); cases hf; exact Rx 4 [0] rfl rfl ⟨rfl,_,⟨_,_,rfl,⟨_,_,0,_,_,rfl,rfl,bY,rfl⟩,_,_,rfl,rfl,rfl⟩,[],List.nil_sublist _,h⟩

theorem YS (s1:Str) (pq:Str) {r0:ah} {r1:Int} (hf:zR s1 pq=some (r0,r1)) (h:Q (.ret (.tuple [.agg (aF r0),iP r1])) τ):PC 207 [.str s1,.str pq] τ Q:=by
 unfold zR at hf; refine BN 44 [.cell 4 25,.tmp 5] [0,1] Tryz.func207 Z Z Z Z Z (W 0 Z (AS Z (AO.aH Z eY (fun b4=>(J 3 Z (C hf Z (fun h1 hf=>?_) fun h1 hf=>?_))))))
 · cases hf; exact Wx 3 [0] rfl rfl ⟨rfl,_,⟨_,_,rfl,⟨_,_,0,_,_,rfl,rfl,bY,rfl⟩,_,_,rfl,rfl,rfl⟩,[],List.nil_sublist _,h⟩
 refine B1 hf fun jI h2 hf=>W 4 Z (CL Z (Lg _ _ _ h2 (J 1 Z (AW.row 6 25 (LK4 (fun l1 v1 EI at2=>[(0,.str s1),(1,.str pq),(4,pP b4),(6,.own v1 (ah.bn l1)),(7,iP EI),(8,iP at2)]) (fun l1 v1 EI at2=>[.row v1 (ah.bn l1).length 6 25,.box b4 [iP 0,.bool false,iP 0,.str ([]:Str),.own (.slice none 0 0) [],.own (.slice none 0 0) []]]) (fun bW l1 v1 EI at2=>vo s1 pq bW l1 EI at2=some (r0,r1)) BIG [] (.slice none 0 0) 0 jI Z Z hf (fun _ _ _ _ hz=>bQ hz) ?_))))); intro bW l1 v1 EI at2 hf
 rw [vo] at hf; refine V 2 Z (C hf Z (fun h3 hf=>?_) fun h3 hf=>?_)
 ·
  refine B1 hf fun x1 h4 hf=>W 4 Z (AS Z (AO.nL h4 Z cu Z ⟨_,Z⟩ ⟨_,Z⟩ ?_)); refine B1 hf fun x2 h5 hf=>CL rfl (vN _ h5 (AS rfl (AO.bq (ah.bn [x2]) rfl oW rfl rfl rfl (by first | rfl | simp only [List.map,ah.aG,ah.bn]) ?_))); refine B1 hf fun l2 h6 hf=>AS Z (AO.eP (i:=0) (l:=l1) (m:=[x2]) h6 Z Z Z Z Z Z Z oW dN (ah.aB _) (ah.aB _) (ah.aB _).symm (ah.dV) (ah.cells_one) (by decide) (fun v2 s2 hs2=>?_)); cases hs2
  refine U 3 Z (AS Z (AO.bJ Z Z Z Z cu Z ?_)); refine B1 hf fun at3 h7 hf=>U 5 Z (CL Z (Lg _ _ _ h7 ?_)); exact N 1 Z ⟨l2,v2,(bS (at2 + (pq.length:Int))),at3,Z,Z,Z,hf⟩
 refine B1 hf fun x3 h8 hf=>W 3 Z (AS Z (AO.nL h8 Z cu Z ⟨_,Z⟩ Z ?_)); refine B1 hf fun x4 h9 hf=>CL rfl (vN _ h9 (AS rfl (AO.bq (ah.bn [x4]) rfl oW rfl rfl rfl (by first | rfl | simp only [List.map,ah.aG,ah.bn]) ?_))); refine B1 hf fun x5 h10 hf=>AS Z (AO.eP (i:=0) (l:=l1) (m:=[x4]) h10 Z Z Z Z Z Z Z oW dN (ah.aB _) (ah.aB _) (ah.aB _).symm (ah.dV) (ah.cells_one) (by decide) (fun v3 s3 hs3=>?_)); cases hs3
 replace hf:=(gH _).trans hf; obtain ⟨x6,x7,h11,hf⟩:=aY hf; refine U 1 Z (CL Z (mP _ h11 ?_)); cases hf; exact Rx 4 [1] rfl rfl ⟨rfl,_,⟨_,_,rfl,⟨_,_,1,_,_,rfl,rfl,bY,rfl⟩,_,_,rfl,rfl,rfl⟩,[],List.nil_sublist _,h⟩

theorem acF (name1:Str) (a1:ah) (b1:ah) {r0:ah} {r1:Int} (hf:LZ name1 a1 b1=some (r0,r1)) (h:Q (.ret (.tuple [.agg (aF r0),iP r1])) τ):PC 136 [.str name1,.agg (aF a1),.agg (aF b1)] τ Q:=by
 unfold LZ at hf; refine BN 86 [.cell 6 25,.tmp 7] [0,1,2] Tryz.func136 Z Z Z Z Z (W 2 Z (AS Z (AO.aH Z eY (fun b6=>(J 4 Z (C hf Z (fun h1 hf=>?_) fun h1 hf=>?_))))))
 · replace hf:=(gH _).trans hf; obtain ⟨x1,x2,h2,hf⟩:=aY hf; refine W 2 Z (CL Z (RP _ _ h2 ?_)); cases hf; exact Rx 4 [0] rfl rfl ⟨rfl,_,⟨_,_,rfl,⟨_,_,0,_,_,rfl,rfl,bY,rfl⟩,_,_,rfl,rfl,rfl⟩,[],List.nil_sublist _,h⟩
 refine V 2 Z (C hf Z (fun h3 hf=>?_) fun h3 hf=>?_)
 · replace hf:=(gH _).trans hf; obtain ⟨x3,x4,h4,hf⟩:=aY hf; refine W 2 Z (CL Z (aan _ _ h4 ?_)); cases hf; exact Rx 4 [0] rfl rfl ⟨rfl,_,⟨_,_,rfl,⟨_,_,0,_,_,rfl,rfl,bY,rfl⟩,_,_,rfl,rfl,rfl⟩,[],List.nil_sublist _,h⟩
 refine V 2 Z (C hf Z (fun h5 hf=>?_) fun h5 hf=>?_)
 ·
  refine V 3 Z (C hf Z (fun h6 hf=>?_) fun h6 hf=>?_)
  · cases hf; exact Wx 3 [0] rfl rfl ⟨rfl,_,⟨_,_,rfl,⟨_,_,0,_,_,rfl,rfl,bY,rfl⟩,_,_,rfl,rfl,rfl⟩,[],List.nil_sublist _,h⟩
  cases hf; exact Wx 3 [0] rfl rfl ⟨rfl,_,⟨_,_,rfl,⟨_,_,0,_,_,rfl,rfl,bY,rfl⟩,_,_,rfl,rfl,rfl⟩,[],List.nil_sublist _,h⟩
 refine W 4 Z (On 4 35 39 [0,4,5,6] (b1.kind != 3) Z Z Z Z (J 0 Z (C hf Z (fun h8 hf=>?_) fun h8 hf=>?_)))
 · cases hf; exact Wx 3 [0] rfl rfl ⟨rfl,_,⟨_,_,rfl,⟨_,_,0,_,_,rfl,rfl,bY,rfl⟩,_,_,rfl,rfl,rfl⟩,[],List.nil_sublist _,h⟩
 refine V 0 Z (AW.draw 6 mixed (by kernel_rfl) Z ?_); refine Ev.cs aP 6 Z (Ev.nil ?_); show AR _ _ _ _ _ _ _ _
 refine J 3 Z (C hf Z (fun h9 hf=>?_) fun h9 hf=>?_)
 · replace hf:=(gH _).trans hf; obtain ⟨x5,x6,h10,hf⟩:=aY hf; refine W 2 Z (CL Z (YS _ _ h10 ?_)); cases hf; exact Rx 4 [0] rfl rfl ⟨rfl,_,⟨_,_,rfl,⟨_,_,0,_,_,rfl,rfl,bY,rfl⟩,_,_,rfl,rfl,rfl⟩,[],List.nil_sublist _,h⟩
 refine V 2 Z (C hf Z (fun h11 hf=>?_) fun h11 hf=>?_)
 ·
  refine W 1 Z (AS Z (AO.bJ Z Z Z Z cu Z (U 1 Z (AS Z (AO.bJ Z Z Z Z cu Z ?_))))); refine B1 hf fun b2 jq hf=>U 2 Z (AR.eX 7 60 67 true [6] b2 Z Z (fun h12=>?_) (fun h12=>?_) ?_)
  · replace jq:=eD h12 jq; refine Is 60 h12 Z (U 2 Z (GO Z (AO.bJ Z Z Z Z cu Z ?_))); obtain ⟨x7,kg,jq⟩:=aN jq; refine GO Z (AO.nL kg Z cu Z Z ⟨_,Z⟩ ?_); obtain rfl:=Option.some.inj jq; exact eU 3 Z (En [67,6] Z)
  · replace jq:=eF h12 jq; refine Is 60 h12 Z ?_; obtain rfl:=Option.some.inj jq; exact eU 7 Z (En [67,6] Z)
  refine B1 hf fun x8 kC hf=>CL Z (nQ _ kC ?_); cases hf; exact Rx 2 [0] rfl rfl ⟨rfl,_,⟨_,_,rfl,⟨_,_,0,_,_,rfl,rfl,bY,rfl⟩,_,_,rfl,rfl,rfl⟩,[],List.nil_sublist _,h⟩
 refine W 1 Z (AS Z (AO.bJ Z Z Z Z cu Z (U 1 Z (AS Z (AO.bJ Z Z Z Z cu Z ?_))))); refine B1 hf fun b3 mQ hf=>U 2 Z (AR.eX 10 74 84 true [6] b3 Z Z (fun h16=>?_) (fun h16=>?_) ?_)
 · replace mQ:=eD h16 mQ; refine Is 74 h16 Z (U 2 Z (GO Z (AO.bJ Z Z Z Z cu Z (U 1 Z (GO Z (AO.bJ Z Z Z Z cu Z ?_)))))); obtain ⟨x9,h18,mQ⟩:=aN mQ; refine U 1 Z (GO Z (AO.nL h18 Z cu Z ⟨_,Z⟩ Z ?_)); obtain rfl:=Option.some.inj mQ; exact eU 3 Z (En [84,6] Z)
 · replace mQ:=eF h16 mQ; refine Is 74 h16 Z ?_; obtain rfl:=Option.some.inj mQ; exact eU 10 Z (En [84,6] Z)
 refine B1 hf fun CO h19 hf=>CL Z (nQ _ h19 ?_); cases hf; exact Rx 2 [0] rfl rfl ⟨rfl,_,⟨_,_,rfl,⟨_,_,0,_,_,rfl,rfl,bY,rfl⟩,_,_,rfl,rfl,rfl⟩,[],List.nil_sublist _,h⟩

theorem MO (op1:Str) (Kt:Bool) (oJ:Bool) {r0:ah} {r1:Int} (hf:uw op1 Kt oJ=some (r0,r1)) (h:Q (.ret (.tuple [.agg (aF r0),iP r1])) τ):PC 209 [.str op1,.bool Kt,.bool oJ] τ Q:=by
 unfold uw at hf; refine BN 25 [.cell 6 25,.tmp 7] [0,1,2] Tryz.func209 Z Z Z Z Z (W 0 Z (AS Z (AO.aH Z eY (fun b6=>(J 4 Z (C hf Z (fun h1 hf=>?_) fun h1 hf=>?_))))))
 · refine B1 hf fun x1 h2 hf=>W 1 Z (CL Z (nQ _ h2 ?_)); cases hf; exact Rx 2 [0] rfl rfl ⟨rfl,_,⟨_,_,rfl,⟨_,_,0,_,_,rfl,rfl,bY,rfl⟩,_,_,rfl,rfl,rfl⟩,[],List.nil_sublist _,h⟩
 refine V 2 Z (C hf Z (fun h3 hf=>?_) fun h3 hf=>?_)
 · refine B1 hf fun x2 h4 hf=>W 2 Z (CL Z (nQ _ h4 ?_)); cases hf; exact Rx 2 [0] rfl rfl ⟨rfl,_,⟨_,_,rfl,⟨_,_,0,_,_,rfl,rfl,bY,rfl⟩,_,_,rfl,rfl,rfl⟩,[],List.nil_sublist _,h⟩
 refine V 2 Z (C hf Z (fun h5 hf=>?_) fun h5 hf=>?_)
 · refine B1 hf fun x3 h6 hf=>W 1 Z (CL Z (nQ _ h6 ?_)); cases hf; exact Rx 2 [0] rfl rfl ⟨rfl,_,⟨_,_,rfl,⟨_,_,0,_,_,rfl,rfl,bY,rfl⟩,_,_,rfl,rfl,rfl⟩,[],List.nil_sublist _,h⟩
 refine B1 hf fun x4 h7 hf=>W 2 Z (CL Z (nQ _ h7 ?_)); cases hf; exact Rx 2 [0] rfl rfl ⟨rfl,_,⟨_,_,rfl,⟨_,_,0,_,_,rfl,rfl,bY,rfl⟩,_,_,rfl,rfl,rfl⟩,[],List.nil_sublist _,h⟩

theorem RS (n1:Int) {r0:BitVec 64} (hf:Bz n1=some r0) (h:Q (.ret (.int .u64 (r0.toNat:Int))) τ):PC 343 [iP n1] τ Q:=by
 unfold Bz at hf; refine BN 12 [.tmp 2] [0] Tryz.func343 Z Z Z Z Z (V 3 Z (C hf Z (fun h1 hf=>?_) fun h1 hf=>?_))
 · refine W 3 Z (AS Z (AO.Vy Z Ea Gh Z ?_)); replace hf:=(aJ _).trans hf; refine B1 hf fun x1 h2 hf=>AS Z (AO.Qc (BitVec.ofInt 64 (bS (0 - (bS (n1 + 1))))) (1:BitVec 64) h2 Z Z Z Z Z ?_); cases hf; exact N 1 Z (Y Z h)
 refine W 1 Z (AS Z (AO.Vy Z Ea Gh Z ?_)); cases hf; exact N 1 Z (Y Z h)

theorem Tz (a1:Int) (b1:Int) {r0:dK} (hf:BA a1 b1=some r0) (h:Q (.ret (.agg (DC r0))) τ):PC 307 [iP a1,iP b1] τ Q:=by
 unfold BA at hf; refine BN 75 [.cell 4 250] [0,1] Tryz.func307 Z Z Z Z Z (W 0 Z (AS Z (AO.aH Z Zg (fun b4=>?_)))); refine B1 hf fun x1 h1 hf=>U 1 Z (CL Z (RS _ h1 ?_)); refine B1 hf fun y1 h2 hf=>U 1 Z (CL Z (RS _ h2 (U 3 Z (AS Z (AO.LJ x1 (4294967296:BitVec 64) Z Z Z Z Z (by decide) ?_))))); refine U 1 Z (AS Z (AO.u64_quo x1 (4294967296:BitVec 64) Z Z Z Z Z (by decide) ?_)); refine U 3 Z (AS Z (AO.LJ y1 (4294967296:BitVec 64) Z Z Z Z Z (by decide) ?_))
 refine U 1 Z (AS Z (AO.u64_quo y1 (4294967296:BitVec 64) Z Z Z Z Z (by decide) ?_)); refine B1 hf fun BZ h3 hf=>U 4 Z (AS Z (AO.Bp (x1 % (4294967296:BitVec 64)) (y1 % (4294967296:BitVec 64)) h3 Z Z Z Z Z ?_)); refine B1 hf fun x2 h4 hf=>U 3 Z (AS Z (AO.Bp (x1 / (4294967296:BitVec 64)) (y1 % (4294967296:BitVec 64)) h4 Z Z Z Z Z (U 1 Z (AS Z (AO.u64_quo BZ (4294967296:BitVec 64) Z Z Z Z Z (by decide) ?_))))); refine AS Z (AO.Ee x2 (BZ / (4294967296:BitVec 64)) Z Z Z Z Z ?_)
 refine B1 hf fun x3 h5 hf=>U 3 Z (AS Z (AO.Bp (x1 % (4294967296:BitVec 64)) (y1 / (4294967296:BitVec 64)) h5 Z Z Z Z Z ?_)); refine B1 hf fun x4 h6 hf=>U 1 Z (AS Z (AO.adb (x2 + (BZ / (4294967296:BitVec 64))) (4294967296:BitVec 64) h6 Z Z Z Z Z (by decide) ?_)); refine AS Z (AO.Ee x3 x4 Z Z Z Z Z ?_); refine B1 hf fun x5 h7 hf=>U 3 Z (AS Z (AO.Bp (x1 / (4294967296:BitVec 64)) (y1 / (4294967296:BitVec 64)) h7 Z Z Z Z Z ?_)); refine B1 hf fun x6 h8 hf=>U 1 Z (AS Z (AO.ade (x2 + (BZ / (4294967296:BitVec 64))) (4294967296:BitVec 64) h8 Z Z Z Z Z (by decide) ?_))
 refine AS Z (AO.Ee x5 x6 Z Z Z Z Z (U 1 Z (AS Z (AO.u64_quo (x3 + x4) (4294967296:BitVec 64) Z Z Z Z Z (by decide) ?_)))); refine B1 hf fun x7 h9 hf=>AS Z (AO.Qc (x5 + x6) ((x3 + x4) / (4294967296:BitVec 64)) h9 Z Z Z Z Z (U 1 Z (AS Z (AO.LJ (x3 + x4) (4294967296:BitVec 64) Z Z Z Z Z (by decide) ?_)))); refine B1 hf fun x8 h10 hf=>AS Z (AO.Bp ((x3 + x4) % (4294967296:BitVec 64)) (4294967296:BitVec 64) h10 Z Z Z Z Z (U 1 Z (AS Z (AO.LJ BZ (4294967296:BitVec 64) Z Z Z Z Z (by decide) ?_))))
 refine AS Z (AO.Ee x8 (BZ % (4294967296:BitVec 64)) Z Z Z Z Z (U 1 Z (AS Z (AO.aH Z Zg (fun b14=>(Rr 5 [0] Z Z (AS Z (AO.MX Z Zv Z Z (U 1 Z (AR.and 9 63 72 [4,14] (x:=(((x7.toNat:Int) != 0) || (((x8 + (BZ % (4294967296:BitVec 64))).toNat:Int) != 0))) Z Z (fun h11=>?_) (fun h11=>?_) ?_))))))))))
 ·
  refine Is 63 h11 Z (U 1 Z (GO Z (AO.bV (i:=0) Z Z Z ado Z Z (U 2 Z (AR.or 4 67 71 [4,14,63] (x:=(((x8 + (BZ % (4294967296:BitVec 64))).toNat:Int) != 0)) Z Z (fun h12=>?_) (fun h12=>?_) ?_)))))
  · refine Is 67 h12 Z (U 1 Z (GO Z (AO.bV (i:=0) Z Z Z ado Z Z ?_))); exact eU 2 Z (En [71,4,14,63] Z)
  · refine Is 67 h12 Z ?_; exact eU 4 Z (En [71,4,14,63] Z)
  exact eU 1 Z (En [72,4,14] Z)
 · refine Is 63 h11 Z ?_; exact eU 9 Z (En [72,4,14] Z)
 cases hf; exact Rx 4 [0,0,1] Z Z (ZC [1] Z Z h)

theorem WW (w1:dK) {r0:Int} {r1:Bool} (hf:Gu w1=some (r0,r1)) (h:Q (.ret (.tuple [iP r0,.bool r1])) τ):PC 308 [.agg (DC w1)] τ Q:=by
 unfold Gu at hf; refine BN 34 [.tmp 2,.tmp 3] [0] Tryz.func308 Z Z Z Z Z (W 7 Z (On 4 7 11 [1] (decide (9223372036854775808 < (w1.lo.toNat:Int))) Z Z Z Z (U 1 Z (AR.or 9 12 21 [1] (x:=(((w1.lo.toNat:Int) == 9223372036854775808) && (!w1.neg))) Z Z (fun h2=>?_) (fun h2=>?_) ?_))))
 · refine Is 12 h2 Z (U 4 Z (An 4 16 20 [1,12] (!w1.neg) Z Z Z Z ?_)); exact eU 1 Z (En [21,1] Z)
 · refine Is 12 h2 Z ?_; exact eU 9 Z (En [21,1] Z)
 refine J 0 Z (C hf Z (fun h4 hf=>?_) fun h4 hf=>?_)
 · cases hf; exact M 2 rfl ⟨rfl,_,⟨_,_,rfl,rfl,_,_,rfl,rfl,rfl⟩,[],List.nil_sublist _,h⟩
 refine V 3 Z (C hf Z (fun h5 hf=>?_) fun h5 hf=>?_)
 · cases hf; exact M 2 rfl ⟨rfl,_,⟨_,_,rfl,rfl,_,_,rfl,rfl,rfl⟩,[],List.nil_sublist _,h⟩
 refine V 2 Z (C hf Z (fun h6 hf=>?_) fun h6 hf=>?_)
 · refine W 2 Z (AS Z (AO.DU Z Gh Ea Z ?_)); cases hf; exact N 3 rfl ⟨rfl,_,⟨_,_,rfl,rfl,_,_,rfl,rfl,rfl⟩,[],List.nil_sublist _,h⟩
 refine W 2 Z (AS Z (AO.DU Z Gh Ea Z ?_)); cases hf; exact N 2 rfl ⟨rfl,_,⟨_,_,rfl,rfl,_,_,rfl,rfl,rfl⟩,[],List.nil_sublist _,h⟩

theorem acI (a1:Int) (b1:Int) {r0:Int} (hf:L_ a1 b1=some r0) (h:Q (.ret (iP r0)) τ):PC 265 [iP a1,iP b1] τ Q:=by
 unfold L_ at hf; refine BN 20 [.tmp 4] [0,1] Tryz.func265 Z Z Z Z Z ?_; refine B1 hf fun x1 h1 hf=>W 3 Z (CL Z (Tz _ _ h1 (AS Z (AO.aH Z Zg (fun b5=>?_))))); obtain ⟨n1,ok1,h2,hf⟩:=aY hf; refine Rr 2 [0,0] Z Z (CL Z (WW _ h2 (J 6 Z (C hf Z (fun h3 hf=>?_) fun h3 hf=>?_))))
 · cases hf; exact M 2 Z (Y Z h)
 refine Ww 2 [0] Z Z (C hf Z (fun h4 hf=>?_) fun h4 hf=>?_)
 · cases hf; exact M 1 Z (Y Z h)
 cases hf; exact M 1 Z (Y Z h)

theorem aao (op1:Str) (a1:Int) (b1:Int) {r0:ah} {r1:Int} (hf:IK op1 a1 b1=some (r0,r1)) (h:Q (.ret (.tuple [.agg (aF r0),iP r1])) τ):PC 210 [.str op1,iP a1,iP b1] τ Q:=by
 unfold IK at hf; refine BN 41 [.cell 6 25,.tmp 7] [0,1,2] Tryz.func210 Z Z Z Z Z (W 0 Z (AS Z (AO.aH Z eY (fun b6=>(J 5 Z (C hf Z (fun h1 hf=>?_) fun h1 hf=>?_))))))
 · replace hf:=(gH _).trans hf; obtain ⟨x1,x2,h2,hf⟩:=aY hf; refine W 6 Z (CL Z (mP _ h2 ?_)); cases hf; exact Rx 4 [0] rfl rfl ⟨rfl,_,⟨_,_,rfl,⟨_,_,0,_,_,rfl,rfl,bY,rfl⟩,_,_,rfl,rfl,rfl⟩,[],List.nil_sublist _,h⟩
 refine V 2 Z (C hf Z (fun h3 hf=>?_) fun h3 hf=>?_)
 · replace hf:=(gH _).trans hf; obtain ⟨x3,x4,h4,hf⟩:=aY hf; refine W 6 Z (CL Z (mP _ h4 ?_)); cases hf; exact Rx 4 [0] rfl rfl ⟨rfl,_,⟨_,_,rfl,⟨_,_,0,_,_,rfl,rfl,bY,rfl⟩,_,_,rfl,rfl,rfl⟩,[],List.nil_sublist _,h⟩
 refine V 2 Z (C hf Z (fun h5 hf=>?_) fun h5 hf=>?_)
 · refine B1 hf fun n1 h6 hf=>W 2 Z (CL Z (acI _ _ h6 ?_)); replace hf:=(gH _).trans hf; obtain ⟨x5,x6,h7,hf⟩:=aY hf; refine U 3 Z (CL Z (mP _ h7 ?_)); cases hf; exact Rx 4 [0] rfl rfl ⟨rfl,_,⟨_,_,rfl,⟨_,_,0,_,_,rfl,rfl,bY,rfl⟩,_,_,rfl,rfl,rfl⟩,[],List.nil_sublist _,h⟩
 refine V 2 Z (C hf Z (fun h8 hf=>?_) fun h8 hf=>?_)
 · cases hf; exact Wx 3 [0] rfl rfl ⟨rfl,_,⟨_,_,rfl,⟨_,_,0,_,_,rfl,rfl,bY,rfl⟩,_,_,rfl,rfl,rfl⟩,[],List.nil_sublist _,h⟩
 refine B1 hf fun _ h9 hf=>W 2 Z (AS Z (AO.ajn h9 Z Z Z (J 3 Z (C hf Z (fun h10 hf=>?_) fun h10 hf=>?_))))
 · refine B1 hf fun _ h11 hf=>W 2 Z (AS Z (AO.ajl h11 Z Z Z ?_)); replace hf:=(gH _).trans hf; obtain ⟨x7,x8,h12,hf⟩:=aY hf; refine U 3 Z (CL Z (mP _ h12 ?_)); cases hf; exact Rx 4 [0] rfl rfl ⟨rfl,_,⟨_,_,rfl,⟨_,_,0,_,_,rfl,rfl,bY,rfl⟩,_,_,rfl,rfl,rfl⟩,[],List.nil_sublist _,h⟩
 replace hf:=(gH _).trans hf; obtain ⟨x9,CO,jq,hf⟩:=aY hf; refine W 2 Z (CL Z (mP _ jq ?_)); cases hf; exact Rx 4 [0] rfl rfl ⟨rfl,_,⟨_,_,rfl,⟨_,_,0,_,_,rfl,rfl,bY,rfl⟩,_,_,rfl,rfl,rfl⟩,[],List.nil_sublist _,h⟩

theorem WR (op1:Str) (a1:ah) (b1:ah) {r0:ah} {r1:Int} (hf:nN op1 a1 b1=some (r0,r1)) (h:Q (.ret (.tuple [.agg (aF r0),iP r1])) τ):PC 138 [.str op1,.agg (aF a1),.agg (aF b1)] τ Q:=by
 unfold nN at hf; refine BN 124 [.cell 6 25,.tmp 7] [0,1,2] Tryz.func138 Z Z Z Z Z (W 2 Z (AS Z (AO.aH Z eY (fun b6=>(U 4 Z (On 3 12 15 [0,4,5,6] (op1 == ([33,61]:Str)) Z Z Z Z (J 0 Z (C hf Z (fun h2 hf=>?_) fun h2 hf=>?_))))))))
 · refine B1 hf fun x1 h3 hf=>W 2 Z (CL Z (Jy _ _ h3 (U 2 Z (AS Z (AO.Si Z Zv Z Z ?_))))); refine B1 hf fun x2 h4 hf=>CL Z (nQ _ h4 ?_); cases hf; exact Rx 2 [0] rfl rfl ⟨rfl,_,⟨_,_,rfl,⟨_,_,0,_,_,rfl,rfl,bY,rfl⟩,_,_,rfl,rfl,rfl⟩,[],List.nil_sublist _,h⟩
 refine V 5 Z (C hf Z (fun h5 hf=>?_) fun h5 hf=>?_)
 · cases hf; exact Wx 3 [0] rfl rfl ⟨rfl,_,⟨_,_,rfl,⟨_,_,0,_,_,rfl,rfl,bY,rfl⟩,_,_,rfl,rfl,rfl⟩,[],List.nil_sublist _,h⟩
 refine B1 hf fun x3 h6 hf=>W 1 Z (CL Z (Jv _ h6 (U 6 Z (An 2 36 38 [0,4,5,6,8] (x3 == 4) Z Z Z Z (J 1 Z (C hf Z (fun h8 hf=>?_) fun h8 hf=>?_))))))
 · replace hf:=(gH _).trans hf; obtain ⟨x4,x5,h9,hf⟩:=aY hf; refine W 11 Z (CL Z (MO _ _ _ h9 ?_)); cases hf; exact Rx 4 [0] rfl rfl ⟨rfl,_,⟨_,_,rfl,⟨_,_,0,_,_,rfl,rfl,bY,rfl⟩,_,_,rfl,rfl,rfl⟩,[],List.nil_sublist _,h⟩
 refine V 4 Z (C hf Z (fun h10 hf=>?_) fun h10 hf=>?_)
 · replace hf:=(gH _).trans hf; obtain ⟨x6,x7,h11,hf⟩:=aY hf; refine W 5 Z (CL Z (aao _ _ _ h11 ?_)); cases hf; exact Rx 4 [0] rfl rfl ⟨rfl,_,⟨_,_,rfl,⟨_,_,0,_,_,rfl,rfl,bY,rfl⟩,_,_,rfl,rfl,rfl⟩,[],List.nil_sublist _,h⟩
 refine W 4 Z (An 2 69 71 [0,4,5,6] (x3 == 4) Z Z Z Z (J 1 Z (C hf Z (fun jq hf=>?_) fun jq hf=>?_)))
 · replace hf:=(gH _).trans hf; obtain ⟨x8,x9,kg,hf⟩:=aY hf; refine W 11 Z (CL Z (MO _ _ _ kg ?_)); cases hf; exact Rx 4 [0] rfl rfl ⟨rfl,_,⟨_,_,rfl,⟨_,_,0,_,_,rfl,rfl,bY,rfl⟩,_,_,rfl,rfl,rfl⟩,[],List.nil_sublist _,h⟩
 refine W 4 Z (An 3 90 93 [0,4,5,6] (op1 == ([43]:Str)) Z Z Z Z (J 1 Z (C hf Z (fun h16 hf=>?_) fun h16 hf=>?_)))
 · refine B1 hf fun CO mQ hf=>W 4 Z (AS Z (AO.kN mQ Z Z Z ?_)); refine B1 hf fun KP h18 hf=>CL Z (vN _ h18 ?_); replace hf:=(gH _).trans hf; obtain ⟨TU,Sv,h19,hf⟩:=aY hf; refine CL Z (mP _ h19 ?_); cases hf; exact Rx 4 [0] rfl rfl ⟨rfl,_,⟨_,_,rfl,⟨_,_,0,_,_,rfl,rfl,bY,rfl⟩,_,_,rfl,rfl,rfl⟩,[],List.nil_sublist _,h⟩
 refine W 4 Z (An 3 107 110 [4,5,6] (op1 == ([43]:Str)) Z Z Z Z (J 1 Z (C hf Z (fun h21 hf=>?_) fun h21 hf=>?_)))
 ·
  refine W 4 Z (AR.row 6 25 ?_); refine B1 hf fun l1 h22 hf=>AS Z (AO.eP (i:=0) (l:=[]) (m:=a1.aI) h22 Z Z Z Z Z Z Z oW dN (show ([]:List (List PV))=List.map ah.cells [] from Z) (ah.aB _) (ah.aB _).symm (ah.dV) (ah.cells_one) (by decide) (fun v1 s1 hs1=>?_)); cases hs1; refine B1 hf fun Vo h23 hf=>U 4 Z (AS Z (AO.eP (i:=0) (l:=l1) (m:=b1.aI) h23 Z Z Z Z Z Z Z oW dN (ah.aB _) (ah.aB _) (ah.aB _).symm (ah.dV) (ah.cells_one) (by decide) (fun v2 s2 hs2=>?_)))
  cases hs2; replace hf:=(gH _).trans hf; obtain ⟨x15,Xh,Ku,hf⟩:=aY hf; refine U 1 Z (CL Z (mP _ Ku ?_)); cases hf; exact Rx 4 [1] rfl rfl ⟨rfl,_,⟨_,_,rfl,⟨_,_,1,_,_,rfl,rfl,bY,rfl⟩,_,_,rfl,rfl,rfl⟩,[],List.nil_sublist _,h⟩
 cases hf; exact Wx 3 [0] rfl rfl ⟨rfl,_,⟨_,_,rfl,⟨_,_,0,_,_,rfl,rfl,bY,rfl⟩,_,_,rfl,rfl,rfl⟩,[],List.nil_sublist _,h⟩

theorem aat (v1:ah) (x1:av) {r0:ah} (hf:IV v1 x1=some r0) (h:Q (.ret (.agg (aF r0))) τ):PC 213 [.agg (aF v1),.agg (za x1)] τ Q:=by
 unfold IV at hf; refine BN 80 [.cell 4 25] [0,1] Tryz.func213 Z Z Z Z Z (W 2 Z (AS Z (AO.aH Z eY (fun b4=>(U 1 Z (AS Z (AO.aH Z eY (fun b5=>?_))))))))
 refine Rw 3 [0] Z Z (AW.row 6 25 (AW.row 1 9 (LK5 (fun Ky i1 aT v2 v3=>[(2,.ref (aF v1)),(3,.ref (za x1)),(4,pP b4),(5,pP b5),(6,.bool Ky),(7,iP i1)]) (fun Ky i1 aT v2 v3=>[.row v3 (List.map ko aT.keys).length 1 9,.row v2 (ah.bn aT.aI).length 6 25,.box b5 [iP aT.kind,.bool aT.dh,iP aT.bZ,.str aT.bI,.own v2 (ah.bn aT.aI),.own v3 (List.map ko aT.keys)],.box b4 [iP 0,.bool false,iP 0,.str ([]:Str),.own (.slice none 0 0) [],.own (.slice none 0 0) []]]) (fun bW Ky i1 aT v2 v3=>uz v1 x1 bW Ky i1 aT=some r0) BIG false 0 (ah.mk 5 false 0 ([]:Str) [] []) (.slice none 0 0) (.slice none 0 0) Z Z hf (fun _ _ _ _ _ hz=>bQ hz) ?_)))
 intro bW Ky i1 aT v2 v3 hf; rw [uz] at hf; refine W 3 Z (AS Z (AO.aL (l:=v1.keys) Z Z Z Z dO Z Z (J 1 Z (C hf Z (fun h1 hf=>?_) fun h1 hf=>?_))))
 ·
  refine V 0 Z (AW.draw 13 mixed (by kernel_rfl) Z ?_); refine Ev.cs aP 3 Z ?_; refine B1 hf fun b1 h3 hf=>Ev.eX hKA 10 18 28 true [2,3,4,5,6,7] (.bool b1) Z Z (fun h2=>?_) (fun h2=>?_) ?_
  · replace h3:=eD h2 h3; refine Ev.is Yt 18 h2 Z (Ev.cs aP 5 Z ?_); obtain ⟨e1,h4,h3⟩:=aN h3; refine Ev.run Z Z Z Z Z Z Z (AO.aM h4 Z Z Z Z dO Z Z zg) (Ev.cs aP 1 Z ?_); obtain ⟨x2,h5,h3⟩:=aN h3; refine Ev.run Z Z Z Z Z Z Z (AO.call Z _ Z Z aa3 (Bc _ _ h5 zg)) (Ev.cs aP 1 Z ?_); obtain rfl:=Option.some.inj h3; refine Ev.cs aP 1 Z ?_; exact Ev.nil (Less.settle (ps:=[28,2,3,4,5,6,7]) Z)
  · replace h3:=eF h2 h3; refine Ev.is Yt 18 h2 Z ?_; obtain rfl:=Option.some.inj h3; refine Ev.cs aP 10 Z ?_; exact Ev.nil (Less.settle (ps:=[28,2,3,4,5,6,7]) Z)
  refine Ev.nil ?_; show AR _ _ _ _ _ _ _ _
  refine J 0 Z (C hf Z (fun h6 hf=>?_) fun h6 hf=>?_)
  ·
   refine Wr 4 [2] Z Z (AS Z (AO.bq (List.map ko ([x1.name]:List Str)) Z kU Z Z Z Z ?_)); refine B1 hf fun x3 h7 hf=>AS Z (AO.eP (i:=0) (l:=aT.keys) (m:=([x1.name]:List Str)) h7 Z Z Z Z Z Z Z kU dO Z Z Z (fun _=>Z) (fun _=>Z) (by decide) (fun v4 s1 hs1=>?_)); cases hs1; refine Rr 6 [2,2] rfl rfl (AS rfl (AO.bq (ah.bn [x1.value]) rfl oW rfl rfl rfl (by first | rfl | simp only [List.map,ah.aG,ah.bn]) ?_)); refine B1 hf fun x4 h8 hf=>?_
   refine AS Z (AO.eP (i:=1) (l:=aT.aI) (m:=[x1.value]) h8 Z Z Z Z Z Z Z oW dN (ah.aB _) (ah.aB _) (ah.aB _).symm (ah.dV) (ah.cells_one) (by decide) (fun v5 s2 hs2=>?_)); cases hs2; refine Rw 3 [2] Z Z (AW.draw 8 mixed (by kernel_rfl) Z ?_); refine Ev.cs aP 1 Z (Ev.cons Z Z Z (AO.bV (i:=2) Z Z Z agG Z Z zg) (Ev.cs aP 3 Z ?_)); refine B1 hf fun e2 h9 hf=>Ev.cons Z Z Z (AO.aM h9 Z Z Z Z dO Z Z zg) (Ev.cs aP 1 Z (Ev.cons Z Z Z (AO.bq (List.map ko ([e2]:List Str)) Z kU Z Z Z Z zg) (Ev.nil ?_)))
   show AR _ _ _ _ _ _ _ _
   refine B1 hf fun x5 h10 hf=>AS Z (AO.eP (i:=0) (l:=x3) (m:=([e2]:List Str)) h10 Z Z Z Z Z Z Z kU dO Z Z Z (fun _=>Z) (fun _=>Z) (by decide) (fun v6 s3 hs3=>?_)); cases hs3; refine Rw 2 [2] Z Z (AW.draw 8 mixed (by kernel_rfl) Z ?_); refine Ev.cs aP 1 Z (Ev.cons Z Z Z (AO.bV (i:=2) Z Z Z Oi Z Z zg) (Ev.cs aP 3 Z ?_)); refine B1 hf fun e3 h11 hf=>Ev.cons rfl rfl rfl (AO.aM h11 rfl rfl (ah.aB _) rfl dN (ah.aG _) rfl ⟨rfl,rfl⟩) (Ev.cs aP 1 rfl (Ev.cons rfl rfl rfl (AO.bq (ah.bn [e3]) rfl oW rfl rfl rfl (by first | rfl | simp only [List.map,ah.aG,ah.bn]) ⟨rfl,rfl⟩) ?_))
   refine Ev.nil ?_; show AR _ _ _ _ _ _ _ _
   refine B1 hf fun x6 h12 hf=>AS Z (AO.eP (i:=1) (l:=x4) (m:=[e3]) h12 Z Z Z Z Z Z Z oW dN (ah.aB _) (ah.aB _) (ah.aB _).symm (ah.dV) (ah.cells_one) (by decide) (fun v7 s4 hs4=>?_)); cases hs4; exact Rx 5 [2] Z Z ⟨true,(bS (i1 + 1)),(ah.mk aT.kind aT.dh aT.bZ aT.bI x6 x5),v7,v6,Z,Z,Z,hf⟩
  refine V 0 Z (AW.draw 8 mixed (by kernel_rfl) Z ?_); refine Ev.cs aP 1 Z (Ev.cons Z Z Z (AO.bV (i:=2) Z Z Z agG Z Z zg) (Ev.cs aP 3 Z ?_)); refine B1 hf fun e4 jq hf=>Ev.cons Z Z Z (AO.aM jq Z Z Z Z dO Z Z zg) (Ev.cs aP 1 Z (Ev.cons Z Z Z (AO.bq (List.map ko ([e4]:List Str)) Z kU Z Z Z Z zg) (Ev.nil ?_))); show AR _ _ _ _ _ _ _ _
  refine B1 hf fun x7 kg hf=>AS Z (AO.eP (i:=0) (l:=aT.keys) (m:=([e4]:List Str)) kg Z Z Z Z Z Z Z kU dO Z Z Z (fun _=>Z) (fun _=>Z) (by decide) (fun v8 s5 hs5=>?_)); cases hs5; refine Rw 2 [2] Z Z (AW.draw 8 mixed (by kernel_rfl) Z ?_); refine Ev.cs aP 1 Z (Ev.cons Z Z Z (AO.bV (i:=2) Z Z Z Oi Z Z zg) (Ev.cs aP 3 Z ?_)); refine B1 hf fun e5 kC hf=>Ev.cons rfl rfl rfl (AO.aM kC rfl rfl (ah.aB _) rfl dN (ah.aG _) rfl ⟨rfl,rfl⟩) (Ev.cs aP 1 rfl (Ev.cons rfl rfl rfl (AO.bq (ah.bn [e5]) rfl oW rfl rfl rfl (by first | rfl | simp only [List.map,ah.aG,ah.bn]) ⟨rfl,rfl⟩) ?_))
  refine Ev.nil ?_; show AR _ _ _ _ _ _ _ _
  refine B1 hf fun x8 h16 hf=>AS Z (AO.eP (i:=1) (l:=aT.aI) (m:=[e5]) h16 Z Z Z Z Z Z Z oW dN (ah.aB _) (ah.aB _) (ah.aB _).symm (ah.dV) (ah.cells_one) (by decide) (fun v9 s6 hs6=>?_)); cases hs6; exact Rx 5 [2] Z Z ⟨Ky,(bS (i1 + 1)),(ah.mk aT.kind aT.dh aT.bZ aT.bI x8 x7),v9,v8,Z,Z,Z,hf⟩
 refine V 2 Z (C hf Z (fun mQ hf=>?_) fun mQ hf=>?_)
 ·
  refine Wr 4 [2] Z Z (AS Z (AO.bq (List.map ko ([x1.name]:List Str)) Z kU Z Z Z Z ?_)); refine B1 hf fun x9 h18 hf=>AS Z (AO.eP (i:=0) (l:=aT.keys) (m:=([x1.name]:List Str)) h18 Z Z Z Z Z Z Z kU dO Z Z Z (fun _=>Z) (fun _=>Z) (by decide) (fun v10 s7 hs7=>?_)); cases hs7; refine Rr 6 [2,2] rfl rfl (AS rfl (AO.bq (ah.bn [x1.value]) rfl oW rfl rfl rfl (by first | rfl | simp only [List.map,ah.aG,ah.bn]) ?_)); refine B1 hf fun CO h19 hf=>?_
  refine AS Z (AO.eP (i:=1) (l:=aT.aI) (m:=[x1.value]) h19 Z Z Z Z Z Z Z oW dN (ah.aB _) (ah.aB _) (ah.aB _).symm (ah.dV) (ah.cells_one) (by decide) (fun v11 s8 hs8=>?_)); cases hs8; cases hf; exact Rx 4 [2,2,3] Z Z (ZC [3] Z Z h)
 cases hf; exact Wx 2 [2,3] Z Z (ZC [3] Z Z h)

theorem acH (gY:List av) {r0:ah} {r1:Int} (hf:J4 gY=some (r0,r1)) (h:Q (.ret (.tuple [.agg (aF r0),iP r1])) τ):PC 140 [.list (List.map av.cells gY)] τ Q:=by
 unfold J4 at hf; refine BN 65 [.cell 2 25,.tmp 3] [0] Tryz.func140 Z Z Z Z Z (W 0 Z (AS Z (AO.aH Z eY (fun b2=>(U 2 Z (AS Z (AO.aL (l:=gY) Z Z Z Z kW Z Z (J 1 Z (C hf Z (fun h1 hf=>?_) fun h1 hf=>?_)))))))))
 · cases hf; exact Wx 3 [0] rfl rfl ⟨rfl,_,⟨_,_,rfl,⟨_,_,0,_,_,rfl,rfl,bY,rfl⟩,_,_,rfl,rfl,rfl⟩,[],List.nil_sublist _,h⟩
 refine W 1 Z (AS Z (AO.aH Z eY (fun b4=>?_))); refine Rw 2 [0] Z Z (AW.settle [0,2,4,5] Z (AW.TW 0 Z (Zf (fun i1 v1=>[(0,.list (List.map av.cells gY)),(2,pP b2),(4,pP b4),(5,iP i1)]) (fun i1 v1=>[.box b4 (aF v1),.box b2 [iP 0,.bool false,iP 0,.str ([]:Str),.own (.slice none 0 0) [],.own (.slice none 0 0) []]]) (fun bW i1 v1=>zW gY bW i1 v1=some (r0,r1)) BIG 0 (ah.mk 5 false 0 ([]:Str) [] []) Z Z hf (fun _ _ hz=>bQ hz) ?_))); intro bW i1 v1 hf; rw [zW] at hf
 refine W 2 Z (AS Z (AO.aL (l:=gY) Z Z Z Z kW Z Z (J 1 Z (C hf Z (fun h2 hf=>?_) fun h2 hf=>?_))))
 ·
  refine B1 hf fun e1 h3 hf=>W 2 Z (AS Z (AO.aM h3 Z Z Z Z kW (av.aG _) Z ?_)); refine B1 hf fun x1 h4 hf=>U 2 Z (CL Z (U5 _ h4 (J 1 Z (C hf Z (fun h5 hf=>?_) fun h5 hf=>?_))))
  · cases hf; exact Wx 3 [1] rfl rfl ⟨rfl,_,⟨_,_,rfl,⟨_,_,1,_,_,rfl,rfl,bY,rfl⟩,_,_,rfl,rfl,rfl⟩,[],List.nil_sublist _,h⟩
  refine B1 hf fun e2 h6 hf=>W 2 Z (AS Z (AO.aM h6 Z Z Z Z kW (av.aG _) Z ?_)); refine B1 hf fun e3 h7 hf=>U 2 Z (CL Z (ER _ h7 (J 3 Z (C hf Z (fun h8 hf=>?_) fun h8 hf=>?_))))
  · cases hf; exact Wx 4 [1] rfl rfl ⟨rfl,_,⟨_,_,rfl,⟨_,_,1,_,_,rfl,rfl,bY,rfl⟩,_,_,rfl,rfl,rfl⟩,[],List.nil_sublist _,h⟩
  refine B1 hf fun e4 h9 hf=>W 2 Z (AS Z (AO.aM h9 Z Z Z Z kW (av.aG _) Z ?_)); refine B1 hf fun x2 h10 hf=>U 2 Z (CL Z (MP _ h10 (J 1 Z (C hf Z (fun h11 hf=>?_) fun h11 hf=>?_))))
  · cases hf; exact Wx 3 [1] rfl rfl ⟨rfl,_,⟨_,_,rfl,⟨_,_,1,_,_,rfl,rfl,bY,rfl⟩,_,_,rfl,rfl,rfl⟩,[],List.nil_sublist _,h⟩
  refine V 0 Z (AW.abr 0 10 12 [_,_] [] mixed (by kernel_rfl) (by kernel_rfl) (by kernel_rfl) Z Z Z (List.Perm.refl _) ?_); refine Ev.nil ?_; show Ev _ _ _ _ _ _ _
  refine Ev.cons Z Z Z (AO.bV (i:=0) Z Z Z bY Z Z zg) (Ev.cs aP 2 Z ?_); refine B1 hf fun e5 h12 hf=>Ev.cons Z Z Z (AO.aM h12 Z Z Z Z kW (av.aG _) Z zg) (Ev.cs aP 2 Z ?_); obtain ⟨x3,ok1,jq,hf⟩:=aY hf; refine Ev.cons Z Z Z (AO.call Z _ Z Z ahH (NN _ _ jq zg)) (Ev.cs aP 3 Z (Ev.nil (TF.step Z Z Z (AO.aH Z eY (fun b7=>?_))))); refine TF.fH Z Z (AO.ig (i:=0) Z Z Z bY Z Z Z Z Z (TF.nil ?_))
  show AR _ _ _ _ _ _ _ _
  refine J 2 Z (C hf Z (fun kg hf=>?_) fun kg hf=>?_)
  · cases hf; exact Wx 3 [1] rfl rfl ⟨rfl,_,⟨_,_,rfl,⟨_,_,1,_,_,rfl,rfl,bY,rfl⟩,_,_,rfl,rfl,rfl⟩,[],List.nil_sublist _,h⟩
  refine V 0 Z (AW.draw 6 mixed (by kernel_rfl) Z ?_); refine Ev.cons Z Z Z (AO.bV (i:=0) Z Z Z bY Z Z zg) (Ev.cs aP 2 Z ?_); refine B1 hf fun e6 kC hf=>Ev.cons Z Z Z (AO.aM kC Z Z Z Z kW (av.aG _) Z zg) (Ev.cs aP 1 Z ?_); refine B1 hf fun x4 h16 hf=>Ev.cons Z Z Z (AO.call Z _ Z Z ahF (aat _ _ h16 zg)) (Ev.nil ?_); show AR _ _ _ _ _ _ _ _
  refine Rn 4 [0] Z Z (AR.aag 2 Z ?_); exact N 0 Z ⟨(bS (i1 + 1)),x4,Z,Z,Z,hf⟩
 cases hf; exact Wx 3 [0,1] rfl rfl ⟨rfl,_,⟨_,_,rfl,⟨_,_,1,_,_,rfl,rfl,bY,rfl⟩,_,_,rfl,rfl,rfl⟩,[],List.nil_sublist _,h⟩

theorem aam (e1:aj) (l1:List ah) {r0:ah} {r1:Int} (hf:FI e1 l1=some (r0,r1)) (h:Q (.ret (.tuple [.agg (aF r0),iP r1])) τ):PC 73 [.agg (aS e1),.list (ah.bn l1)] τ Q:=by
 unfold FI at hf; refine BN 134 [.cell 4 25,.tmp 5] [0,1] Tryz.func73 Z Z Z Z Z (W 1 Z (AS Z (AO.aH Z eY (fun b4=>(J 5 Z (C hf Z (fun h1 hf=>?_) fun h1 hf=>?_))))))
 ·
  refine V 0 Z (AW.draw 9 mixed (by kernel_rfl) Z ?_); refine Ev.cs aP 1 Z ?_; refine B1 hf fun e2 h2 hf=>Ev.cons Z Z Z (AO.aM h2 Z Z (ah.aB _) Z dN (ah.aG _) Z zg) (Ev.cs aP 3 Z ?_); refine B1 hf fun x1 h3 hf=>Ev.cons Z Z Z (AO.call Z _ Z Z adQ (vN _ h3 zg)) ?_; replace hf:=(gH _).trans hf; obtain ⟨x2,x3,h4,hf⟩:=aY hf; refine Ev.cons Z Z Z (AO.call Z _ Z Z adR (Oz _ _ h4 zg)) (Ev.cs aP 2 Z (Ev.nil ?_)); show AR _ _ _ _ _ _ _ _
  cases hf; exact Rx 2 [0] rfl rfl ⟨rfl,_,⟨_,_,rfl,⟨_,_,0,_,_,rfl,rfl,bY,rfl⟩,_,_,rfl,rfl,rfl⟩,[],List.nil_sublist _,h⟩
 refine V 2 Z (C hf Z (fun h5 hf=>?_) fun h5 hf=>?_)
 ·
  refine V 0 Z (AW.draw 9 mixed (by kernel_rfl) Z ?_); refine Ev.cs aP 1 Z ?_; refine B1 hf fun e3 h6 hf=>Ev.cons Z Z Z (AO.aM h6 Z Z (ah.aB _) Z dN (ah.aG _) Z zg) (Ev.cs aP 2 Z ?_); refine B1 hf fun e4 h7 hf=>Ev.cons Z Z Z (AO.aM h7 Z Z (ah.aB _) Z dN (ah.aG _) Z zg) (Ev.cs aP 1 Z ?_); replace hf:=(gH _).trans hf; obtain ⟨x4,x5,h8,hf⟩:=aY hf
  refine Ev.cons Z Z Z (AO.call Z _ Z Z adR (Oz _ _ h8 zg)) (Ev.cs aP 2 Z (Ev.nil ?_)); show AR _ _ _ _ _ _ _ _
  cases hf; exact Rx 2 [0] rfl rfl ⟨rfl,_,⟨_,_,rfl,⟨_,_,0,_,_,rfl,rfl,bY,rfl⟩,_,_,rfl,rfl,rfl⟩,[],List.nil_sublist _,h⟩
 refine V 2 Z (C hf Z (fun h9 hf=>?_) fun h9 hf=>?_)
 ·
  refine W 1 Z (AS Z (AO.aL (l:=l1) Z Z Z Z dN Z (ah.aB _) (J 1 Z (C hf Z (fun h10 hf=>?_) fun h10 hf=>?_))))
  ·
   refine V 0 Z (AW.draw 8 mixed (by kernel_rfl) Z ?_); refine Ev.cs aP 3 Z ?_; refine B1 hf fun e5 h11 hf=>Ev.cons Z Z Z (AO.aM h11 Z Z (ah.aB _) Z dN (ah.aG _) Z zg) (Ev.cs aP 1 Z ?_); replace hf:=(gH _).trans hf; obtain ⟨x6,x7,h12,hf⟩:=aY hf; refine Ev.cons Z Z Z (AO.call Z _ Z Z ahX (acG _ _ h12 zg)) (Ev.cs aP 2 Z (Ev.nil ?_)); show AR _ _ _ _ _ _ _ _
   cases hf; exact Rx 2 [0] rfl rfl ⟨rfl,_,⟨_,_,rfl,⟨_,_,0,_,_,rfl,rfl,bY,rfl⟩,_,_,rfl,rfl,rfl⟩,[],List.nil_sublist _,h⟩
  refine V 0 Z (AW.draw 11 mixed (by kernel_rfl) Z ?_); refine Ev.cs aP 3 Z ?_; refine B1 hf fun e6 jq hf=>Ev.cons Z Z Z (AO.aM jq Z Z (ah.aB _) Z dN (ah.aG _) Z zg) (Ev.cs aP 2 Z ?_); refine B1 hf fun e7 kg hf=>Ev.cons Z Z Z (AO.aM kg Z Z (ah.aB _) Z dN (ah.aG _) Z zg) (Ev.cs aP 1 Z ?_); replace hf:=(gH _).trans hf; obtain ⟨x8,x9,kC,hf⟩:=aY hf
  refine Ev.cons Z Z Z (AO.call Z _ Z Z ahW (acF _ _ _ kC zg)) (Ev.cs aP 2 Z (Ev.nil ?_)); show AR _ _ _ _ _ _ _ _
  cases hf; exact Rx 2 [0] rfl rfl ⟨rfl,_,⟨_,_,rfl,⟨_,_,0,_,_,rfl,rfl,bY,rfl⟩,_,_,rfl,rfl,rfl⟩,[],List.nil_sublist _,h⟩
 refine V 2 Z (C hf Z (fun h16 hf=>?_) fun h16 hf=>?_)
 ·
  refine B1 hf fun b1 h18 hf=>W 4 Z (AR.eX 6 61 67 true [1,2,4] b1 Z Z (fun mQ=>?_) (fun mQ=>?_) ?_)
  · replace h18:=eD mQ h18; refine Is 61 mQ Z ?_; obtain ⟨e8,h19,h18⟩:=aN h18; refine U 1 Z (GO Z (AO.aM h19 Z Z (ah.aB _) Z dN (ah.aG _) Z ?_)); obtain rfl:=Option.some.inj h18; exact eU 4 Z (En [67,1,2,4] Z)
  · replace h18:=eF mQ h18; refine Is 61 mQ Z ?_; obtain rfl:=Option.some.inj h18; exact eU 6 Z (En [67,1,2,4] Z)
  refine J 0 Z (C hf Z (fun h20 hf=>?_) fun h20 hf=>?_)
  · refine B1 hf fun e9 h21 hf=>W 1 Z (AS Z (AO.aM h21 Z Z (ah.aB _) Z dN (ah.aG _) Z ?_)); refine B1 hf fun CO h22 hf=>U 3 Z (CL Z (nQ _ h22 ?_)); cases hf; exact Rx 2 [0] rfl rfl ⟨rfl,_,⟨_,_,rfl,⟨_,_,0,_,_,rfl,rfl,bY,rfl⟩,_,_,rfl,rfl,rfl⟩,[],List.nil_sublist _,h⟩
  refine B1 hf fun b2 Ku hf=>W 4 Z (AR.eX 6 77 83 true [1,4] b2 Z Z (fun h23=>?_) (fun h23=>?_) ?_)
  · replace Ku:=eD h23 Ku; refine Is 77 h23 Z ?_; obtain ⟨e10,Sw,Ku⟩:=aN Ku; refine U 1 Z (GO Z (AO.aM Sw Z Z (ah.aB _) Z dN (ah.aG _) Z ?_)); obtain rfl:=Option.some.inj Ku; exact eU 4 Z (En [83,1,4] Z)
  · replace Ku:=eF h23 Ku; refine Is 77 h23 Z ?_; obtain rfl:=Option.some.inj Ku; exact eU 6 Z (En [83,1,4] Z)
  refine J 0 Z (C hf Z (fun PI hf=>?_) fun PI hf=>?_)
  · refine B1 hf fun e11 h27 hf=>W 1 Z (AS Z (AO.aM h27 Z Z (ah.aB _) Z dN (ah.aG _) Z ?_)); cases hf; exact Rx 6 [0] rfl rfl ⟨rfl,_,⟨_,_,rfl,⟨_,_,0,_,_,rfl,rfl,bY,rfl⟩,_,_,rfl,rfl,rfl⟩,[],List.nil_sublist _,h⟩
  cases hf; exact Wx 3 [0] rfl rfl ⟨rfl,_,⟨_,_,rfl,⟨_,_,0,_,_,rfl,rfl,bY,rfl⟩,_,_,rfl,rfl,rfl⟩,[],List.nil_sublist _,h⟩
 refine V 2 Z (C hf Z (fun Xb hf=>?_) fun Xb hf=>?_)
 ·
  refine V 0 Z (AW.draw 11 mixed (by kernel_rfl) Z ?_); refine Ev.cs aP 3 Z ?_; refine B1 hf fun e12 Te hf=>Ev.cons Z Z Z (AO.aM Te Z Z (ah.aB _) Z dN (ah.aG _) Z zg) (Ev.cs aP 2 Z ?_); refine B1 hf fun e13 h30 hf=>Ev.cons Z Z Z (AO.aM h30 Z Z (ah.aB _) Z dN (ah.aG _) Z zg) (Ev.cs aP 1 Z ?_); replace hf:=(gH _).trans hf; obtain ⟨KP,TU,h31,hf⟩:=aY hf
  refine Ev.cons Z Z Z (AO.call Z _ Z Z ahV (WR _ _ _ h31 zg)) (Ev.cs aP 2 Z (Ev.nil ?_)); show AR _ _ _ _ _ _ _ _
  cases hf; exact Rx 2 [0] rfl rfl ⟨rfl,_,⟨_,_,rfl,⟨_,_,0,_,_,rfl,rfl,bY,rfl⟩,_,_,rfl,rfl,rfl⟩,[],List.nil_sublist _,h⟩
 refine V 2 Z (C hf Z (fun h32 hf=>?_) fun h32 hf=>?_)
 · replace hf:=(gH _).trans hf; obtain ⟨Sv,Vo,O9,hf⟩:=aY hf; refine W 2 Z (CL Z (mP _ O9 ?_)); cases hf; exact Rx 4 [0] rfl rfl ⟨rfl,_,⟨_,_,rfl,⟨_,_,0,_,_,rfl,rfl,bY,rfl⟩,_,_,rfl,rfl,rfl⟩,[],List.nil_sublist _,h⟩
 refine V 2 Z (AW.row 7 47 (Vf (fun gY v1 i1=>[(1,.list (ah.bn l1)),(2,.ref (aS e1)),(4,pP b4),(6,.own v1 (List.map av.cells gY)),(7,iP i1)]) (fun gY v1 i1=>[.row v1 (List.map av.cells gY).length 7 47,.box b4 [iP 0,.bool false,iP 0,.str ([]:Str),.own (.slice none 0 0) [],.own (.slice none 0 0) []]]) (fun bW gY v1 i1=>xC e1 l1 bW gY i1=some (r0,r1)) BIG [] (.slice none 0 0) 0 Z Z hf (fun _ _ _ hz=>bQ hz) ?_)); intro bW gY v1 i1 hf; rw [xC] at hf
 refine W 2 Z (AS Z (AO.aL (l:=l1) Z Z Z Z dN Z (ah.aB _) (J 1 Z (C hf Z (fun h34 hf=>?_) fun h34 hf=>?_))))
 ·
  refine V 0 Z (AW.draw 12 mixed (by kernel_rfl) Z ?_); refine Ev.cs aP 4 Z ?_; refine B1 hf fun e14 h35 hf=>Ev.cons Z Z Z (AO.aM h35 Z Z Z Z dO Z Z zg) (Ev.cs aP 3 Z ?_); refine B1 hf fun e15 h36 hf=>Ev.cons rfl rfl rfl (AO.aM h36 rfl rfl (ah.aB _) rfl dN (ah.aG _) rfl ⟨rfl,rfl⟩) (Ev.cs aP 1 rfl (Ev.cons rfl rfl rfl (AO.build rfl TS adu rfl ⟨rfl,rfl⟩) (Ev.cons rfl rfl rfl (AO.bq (List.map av.cells [(av.mk e14 e15)]) rfl Cg rfl rfl rfl (by first | rfl | simp only [List.map,av.aG]) ⟨rfl,rfl⟩) ?_)))
  refine Ev.nil ?_; show AR _ _ _ _ _ _ _ _
  refine B1 hf fun Da h37 hf=>AS Z (AO.eP (i:=0) (l:=gY) (m:=[(av.mk e14 e15)]) h37 Z Z Z Z Z Z Z Cg kW Z Z Z (av.dV) (av.cells_one) (by decide) (fun v2 s1 hs1=>?_)); cases hs1; exact N 4 Z ⟨Da,v2,(bS (i1 + 1)),Z,Z,Z,hf⟩
 replace hf:=(gH _).trans hf; obtain ⟨x15,Xh,h38,hf⟩:=aY hf; refine W 1 Z (CL Z (acH _ h38 ?_)); cases hf; exact Rx 4 [1] rfl rfl ⟨rfl,_,⟨_,_,rfl,⟨_,_,1,_,_,rfl,rfl,bY,rfl⟩,_,_,rfl,rfl,rfl⟩,[],List.nil_sublist _,h⟩


abbrev Hq (gy:aj→List av→Option (ah × Int)):Prop:=∀ (fV:aj) (jv:List av) {aU:ah} {qK:Int},gy fV jv=some (aU,qK)→∀ {τ:List bE} {Q:eZ→List bE→Prop} (h:Q (.ret (.tuple [.agg (aF aU),iP qK])) τ),PC 38 [.agg (aS fV),.list (List.map av.cells jv)] τ Q
abbrev CJ (iT:aj→List av→Option (ah × Int)):Prop:=∀ (fV:aj) (jv:List av) {aU:ah} {qK:Int},iT fV jv=some (aU,qK)→∀ {τ:List bE} {Q:eZ→List bE→Prop} (h:Q (.ret (.tuple [.agg (aF aU),iP qK])) τ),PC 71 [.agg (aS fV),.list (List.map av.cells jv)] τ Q
abbrev Bf (iB:aj→List av→Option (ah × Int)):Prop:=∀ (fV:aj) (jv:List av) {aU:ah} {qK:Int},iB fV jv=some (aU,qK)→∀ {τ:List bE} {Q:eZ→List bE→Prop} (h:Q (.ret (.tuple [.agg (aF aU),iP qK])) τ),PC 132 [.agg (aS fV),.list (List.map av.cells jv)] τ Q
theorem Zo (gy) (vJ:Hq gy) (iT) (zo:CJ iT) (iB) (wV:Bf iB) (e1:aj) (bK:List av) {r0:ah} {r1:Int} (hf:Gp gy iT iB e1 bK=some (r0,r1)) (h:Q (.ret (.tuple [.agg (aF r0),iP r1])) τ):PC 38 [.agg (aS e1),.list (List.map av.cells bK)] τ Q:=by
 unfold Gp at hf; refine BN 118 [.cell 4 25,.tmp 5] [0,1] Tryz.func38 Z Z Z Z Z (W 1 Z (AS Z (AO.aH Z eY (fun b4=>?_)))); refine Rv0 1 Z (CU ([(1,.list (List.map av.cells bK)),(2,.ref (aS e1)),(4,pP b4)]) ([.box b4 [iP 0,.bool false,iP 0,.str ([]:Str),.own (.slice none 0 0) [],.own (.slice none 0 0) []]]) (Bu gy e1 bK=some (r0,r1)) ?_ ?_)
 ·
  refine V 4 Z (C hf Z (fun h1 hf=>?_) fun h1 hf=>?_)
  · cases hf; exact Wx 4 [0] rfl rfl ⟨rfl,_,⟨_,_,rfl,⟨_,_,0,_,_,rfl,rfl,bY,rfl⟩,_,_,rfl,rfl,rfl⟩,[],List.nil_sublist _,h⟩
  refine V 4 Z (C hf Z (fun h2 hf=>?_) fun h2 hf=>?_)
  ·
   refine V 1 Z (Gc (fun i1=>[(1,.list (List.map av.cells bK)),(2,.ref (aS e1)),(4,pP b4),(6,iP i1)]) (fun i1=>[.box b4 [iP 0,.bool false,iP 0,.str ([]:Str),.own (.slice none 0 0) [],.own (.slice none 0 0) []]]) (fun bW i1=>xE e1 bK bW i1=some (r0,r1)) BIG 0 Z Z hf (fun _ hz=>bQ hz) ?_); intro bW i1 hf; rw [xE] at hf; refine W 2 Z (AS Z (AO.aL (l:=bK) Z Z Z Z kW Z Z (J 1 Z (C hf Z (fun h3 hf=>?_) fun h3 hf=>?_))))
   ·
    refine V 0 Z (AW.draw 8 mixed (by kernel_rfl) Z ?_); refine Ev.cs aP 2 Z ?_; refine B1 hf fun e2 h4 hf=>Ev.cons Z Z Z (AO.aM h4 Z Z Z Z kW (av.aG _) Z zg) (Ev.cs aP 5 Z (Ev.nil ?_)); show AR _ _ _ _ _ _ _ _
    refine J 0 Z (C hf Z (fun h5 hf=>?_) fun h5 hf=>?_)
    · refine B1 hf fun e3 h6 hf=>W 2 Z (AS Z (AO.aM h6 Z Z Z Z kW (av.aG _) Z ?_)); cases hf; exact Rx 4 [0] rfl rfl ⟨rfl,_,⟨_,_,rfl,⟨_,_,0,_,_,rfl,rfl,bY,rfl⟩,_,_,rfl,rfl,rfl⟩,[],List.nil_sublist _,h⟩
    exact M 3 Z ⟨(bS (i1 + 1)),Z,Z,Z,hf⟩
   cases hf; exact Wx 3 [0] rfl rfl ⟨rfl,_,⟨_,_,rfl,⟨_,_,0,_,_,rfl,rfl,bY,rfl⟩,_,_,rfl,rfl,rfl⟩,[],List.nil_sublist _,h⟩
  refine V 4 Z (C hf Z (fun h7 hf=>?_) fun h7 hf=>?_)
  ·
   refine V 0 Z (AW.cond Z (fun h8=>?_) (fun h8=>?_))
   · replace hf:=(gH _).trans hf; obtain ⟨x1,x2,h9,hf⟩:=aY hf; refine W 2 Z (CL Z (zo _ _ h9 ?_)); cases hf; exact Rx 4 [0] rfl rfl ⟨rfl,_,⟨_,_,rfl,⟨_,_,0,_,_,rfl,rfl,bY,rfl⟩,_,_,rfl,rfl,rfl⟩,[],List.nil_sublist _,h⟩
   cases h7.symm.trans h8
  refine W 4 Z (AR.and 9 48 57 [1,2,4,41] (x:=((e1.name == ([38,38]:Str)) || (e1.name == ([124,124]:Str)))) Z Z (fun h10=>?_) (fun h10=>?_) ?_)
  · refine Is 48 h10 Z (U 4 Z (On 4 52 56 [1,2,4,41,48] (e1.name == ([124,124]:Str)) Z Z Z Z ?_)); exact eU 1 Z (En [57,1,2,4,41] Z)
  · refine Is 48 h10 Z ?_; exact eU 9 Z (En [57,1,2,4,41] Z)
  refine J 1 Z (C hf Z (fun h12 hf=>?_) fun h12 hf=>?_)
  · replace hf:=(gH _).trans hf; obtain ⟨x3,x4,jq,hf⟩:=aY hf; refine W 2 Z (CL Z (zo _ _ jq ?_)); cases hf; exact Rx 4 [0] rfl rfl ⟨rfl,_,⟨_,_,rfl,⟨_,_,0,_,_,rfl,rfl,bY,rfl⟩,_,_,rfl,rfl,rfl⟩,[],List.nil_sublist _,h⟩
  refine B1 hf fun b1 kC hf=>W 4 Z (AR.eX 5 67 72 true [1,2,4] b1 Z Z (fun kg=>?_) (fun kg=>?_) ?_)
  · replace kC:=eD kg kC; refine Is 67 kg Z ?_; obtain ⟨x5,h16,kC⟩:=aN kC; refine U 2 Z (GO Z (AO.call Z _ Z Z agM (RQ _ h16 ?_))); obtain rfl:=Option.some.inj kC; exact eU 2 Z (En [72,1,2,4] Z)
  · replace kC:=eF kg kC; refine Is 67 kg Z ?_; obtain rfl:=Option.some.inj kC; exact eU 5 Z (En [72,1,2,4] Z)
  refine J 1 Z (C hf Z (fun mQ hf=>?_) fun mQ hf=>?_)
  · cases hf; exact Wx 3 [0] rfl rfl ⟨rfl,_,⟨_,_,rfl,⟨_,_,0,_,_,rfl,rfl,bY,rfl⟩,_,_,rfl,rfl,rfl⟩,[],List.nil_sublist _,h⟩
  refine V 0 Z (AW.draw 13 mixed (by kernel_rfl) Z ?_); refine Ev.cs aP 4 Z ?_; refine B1 hf fun b2 h19 hf=>Ev.eX hKA 8 78 86 true [1,2,4] (.bool b2) Z Z (fun h18=>?_) (fun h18=>?_) ?_
  · replace h19:=eD h18 h19; refine Ev.is Yt 78 h18 Z (Ev.cs aP 2 Z ?_); obtain ⟨x6,h20,h19⟩:=aN h19; refine Ev.run Z Z Z Z Z Z Z (AO.call Z _ Z Z agM (RQ _ h20 zg)) (Ev.cs aP 2 Z (Ev.run Z Z Z Z Z Z Z (AO.aL (l:=e1.args) Z Z Z Z fM Z (aj.aB _) zg) (Ev.cs aP 1 Z ?_))); obtain rfl:=Option.some.inj h19; refine Ev.cs aP 1 Z ?_; exact Ev.nil (Less.settle (ps:=[86,1,2,4]) Z)
  · replace h19:=eF h18 h19; refine Ev.is Yt 78 h18 Z ?_; obtain rfl:=Option.some.inj h19; refine Ev.cs aP 8 Z ?_; exact Ev.nil (Less.settle (ps:=[86,1,2,4]) Z)
  refine Ev.cs aP 1 Z (Ev.nil ?_); show AR _ _ _ _ _ _ _ _
  refine J 0 Z (C hf Z (fun h21 hf=>?_) fun h21 hf=>?_)
  · cases hf; exact Wx 3 [0] rfl rfl ⟨rfl,_,⟨_,_,rfl,⟨_,_,0,_,_,rfl,rfl,bY,rfl⟩,_,_,rfl,rfl,rfl⟩,[],List.nil_sublist _,h⟩
  exact M 0 Z ⟨Z,Z,Z,hf⟩
 intro  hf; unfold Bu at hf; refine Xw0 2 Z (AW.row 6 25 (Vf (fun l1 v1 i2=>[(1,.list (List.map av.cells bK)),(2,.ref (aS e1)),(4,pP b4),(7,.own v1 (ah.bn l1)),(8,iP i2)]) (fun l1 v1 i2=>[.row v1 (ah.bn l1).length 6 25,.box b4 [iP 0,.bool false,iP 0,.str ([]:Str),.own (.slice none 0 0) [],.own (.slice none 0 0) []]]) (fun EB l1 v1 i2=>Bt gy e1 bK EB l1 i2=some (r0,r1)) BIG [] (.slice none 0 0) 0 Z Z hf (fun _ _ _ hz=>bQ hz) ?_)); intro EB l1 v1 i2 hf; rw [Bt] at hf
 refine W 3 Z (AS Z (AO.aL (l:=e1.args) Z Z Z Z fM Z (aj.aB _) (J 1 Z (C hf Z (fun h22 hf=>?_) fun h22 hf=>?_))))
 ·
  refine B1 hf fun e4 h23 hf=>W 3 Z (AS Z (AO.aM h23 Z Z (aj.aB _) Z fM (aj.aG _) Z ?_)); obtain ⟨x7,f1,Ku,hf⟩:=aY hf; refine U 2 Z (CL Z (vJ _ _ Ku (U 3 Z (AS Z (AO.aH Z eY (fun b9=>(Rw 4 [0] Z Z (C hf Z (fun Sw hf=>?_) fun Sw hf=>?_))))))))
  · cases hf; exact Wx 4 [2] rfl rfl ⟨rfl,_,⟨_,_,rfl,⟨_,_,2,_,_,rfl,rfl,bY,rfl⟩,_,_,rfl,rfl,rfl⟩,[],List.nil_sublist _,h⟩
  refine Wr 2 [0] rfl rfl (AS rfl (AO.bq (ah.bn [x7]) rfl oW rfl rfl rfl (by first | rfl | simp only [List.map,ah.aG,ah.bn]) ?_)); refine B1 hf fun l2 PI hf=>AS Z (AO.eP (i:=1) (l:=l1) (m:=[x7]) PI Z Z Z Z Z Z Z oW dN (ah.aB _) (ah.aB _) (ah.aB _).symm (ah.dV) (ah.cells_one) (by decide) (fun v2 s1 hs1=>?_)); cases hs1; refine eU 4 Z (AR.drop1 ?_); exact N 0 Z ⟨l2,v2,(bS (i2 + 1)),Z,Z,Z,hf⟩
 replace hf:=(gH _).trans hf; obtain ⟨x8,x9,h27,hf⟩:=aY hf; refine W 2 Z (CL Z (aam _ _ h27 ?_)); cases hf; exact Rx 4 [1] rfl rfl ⟨rfl,_,⟨_,_,rfl,⟨_,_,1,_,_,rfl,rfl,bY,rfl⟩,_,_,rfl,rfl,rfl⟩,[],List.nil_sublist _,h⟩
theorem Vq (gy) (vJ:Hq gy) (iT) (zo:CJ iT) (iB) (wV:Bf iB) (e1:aj) (bK:List av) {r0:ah} {r1:Int} (hf:vw gy iT iB e1 bK=some (r0,r1)) (h:Q (.ret (.tuple [.agg (aF r0),iP r1])) τ):PC 71 [.agg (aS e1),.list (List.map av.cells bK)] τ Q:=by
 unfold vw at hf; refine BN 57 [.cell 4 25,.tmp 5] [0,1] Tryz.func71 Z Z Z Z Z (W 1 Z (AS Z (AO.aH Z eY (fun b4=>?_)))); refine B1 hf fun e2 h1 hf=>U 3 Z (AS Z (AO.aM h1 Z Z (aj.aB _) Z fM (aj.aG _) Z ?_)); obtain ⟨x1,f1,h2,hf⟩:=aY hf; refine U 2 Z (CL Z (wV _ _ h2 (U 3 Z (AS Z (AO.aH Z eY (fun b6=>(Rw 4 [0] Z Z (C hf Z (fun h3 hf=>?_) fun h3 hf=>?_))))))))
 · cases hf; exact Wx 4 [1] rfl rfl ⟨rfl,_,⟨_,_,rfl,⟨_,_,1,_,_,rfl,rfl,bY,rfl⟩,_,_,rfl,rfl,rfl⟩,[],List.nil_sublist _,h⟩
 refine V 3 Z (C hf Z (fun h4 hf=>?_) fun h4 hf=>?_)
 ·
  refine Ww 2 [0] Z Z (C hf Z (fun h5 hf=>?_) fun h5 hf=>?_)
  · refine B1 hf fun e3 h6 hf=>W 2 Z (AS Z (AO.aM h6 Z Z (aj.aB _) Z fM (aj.aG _) Z ?_)); replace hf:=(gH _).trans hf; obtain ⟨x2,x3,h7,hf⟩:=aY hf; refine U 2 Z (CL Z (vJ _ _ h7 ?_)); cases hf; exact Rx 4 [1] rfl rfl ⟨rfl,_,⟨_,_,rfl,⟨_,_,1,_,_,rfl,rfl,bY,rfl⟩,_,_,rfl,rfl,rfl⟩,[],List.nil_sublist _,h⟩
  refine B1 hf fun e4 h8 hf=>W 2 Z (AS Z (AO.aM h8 Z Z (aj.aB _) Z fM (aj.aG _) Z ?_)); replace hf:=(gH _).trans hf; obtain ⟨x4,x5,h9,hf⟩:=aY hf; refine U 2 Z (CL Z (vJ _ _ h9 ?_)); cases hf; exact Rx 4 [1] rfl rfl ⟨rfl,_,⟨_,_,rfl,⟨_,_,1,_,_,rfl,rfl,bY,rfl⟩,_,_,rfl,rfl,rfl⟩,[],List.nil_sublist _,h⟩
 refine Wr 5 [0] Z Z (AS Z (AO.Si Z Zv Z Z (J 0 Z (C hf Z (fun h10 hf=>?_) fun h10 hf=>?_))))
 · cases hf; exact Wx 3 [0,1] rfl rfl ⟨rfl,_,⟨_,_,rfl,⟨_,_,1,_,_,rfl,rfl,bY,rfl⟩,_,_,rfl,rfl,rfl⟩,[],List.nil_sublist _,h⟩
 refine B1 hf fun e5 h11 hf=>W 2 Z (AS Z (AO.aM h11 Z Z (aj.aB _) Z fM (aj.aG _) Z ?_)); replace hf:=(gH _).trans hf; obtain ⟨x6,x7,h12,hf⟩:=aY hf; refine U 2 Z (CL Z (wV _ _ h12 ?_)); cases hf; exact Rx 4 [1] rfl rfl ⟨rfl,_,⟨_,_,rfl,⟨_,_,1,_,_,rfl,rfl,bY,rfl⟩,_,_,rfl,rfl,rfl⟩,[],List.nil_sublist _,h⟩
theorem SC (gy) (vJ:Hq gy) (iT) (zo:CJ iT) (iB) (wV:Bf iB) (e1:aj) (bK:List av) {r0:ah} {r1:Int} (hf:wz gy iT iB e1 bK=some (r0,r1)) (h:Q (.ret (.tuple [.agg (aF r0),iP r1])) τ):PC 132 [.agg (aS e1),.list (List.map av.cells bK)] τ Q:=by
 unfold wz at hf; refine BN 24 [.cell 4 25,.tmp 5] [0,1] Tryz.func132 Z Z Z Z Z (W 1 Z (AS Z (AO.aH Z eY (fun b4=>?_)))); obtain ⟨x1,f1,h1,hf⟩:=aY hf; refine U 3 Z (CL Z (vJ _ _ h1 (U 3 Z (AS Z (AO.aH Z eY (fun b6=>(Rr 5 [0] Z Z (AR.and 4 16 20 [4,6,7] (x:=(x1.kind != 1)) Z Z (fun h2=>?_) (fun h2=>?_) ?_))))))))
 · refine Is 16 h2 Z (U 1 Z (GO Z (AO.bV (i:=0) Z Z Z FE Z Z ?_))); exact eU 2 Z (En [20,4,6,7] Z)
 · refine Is 16 h2 Z ?_; exact eU 4 Z (En [20,4,6,7] Z)
 refine J 0 Z (C hf Z (fun h3 hf=>?_) fun h3 hf=>?_)
 · cases hf; exact Wx 3 [1] rfl rfl ⟨rfl,_,⟨_,_,rfl,⟨_,_,1,_,_,rfl,rfl,bY,rfl⟩,_,_,rfl,rfl,rfl⟩,[],List.nil_sublist _,h⟩
 cases hf; exact Wx 4 [0,1] rfl rfl ⟨rfl,_,⟨_,_,rfl,⟨_,_,1,_,_,rfl,rfl,bY,rfl⟩,_,_,rfl,rfl,rfl⟩,[],List.nil_sublist _,h⟩
theorem KY :∀ k:Nat,(Hq (jO k))∧(CJ (lG k))∧(Bf (kG k)):=by
 intro k
 induction k with
 | zero=>exact ⟨fun _ _ _ _ hz=>by first | cases hz | (unfold jO at hz; cases hz),fun _ _ _ _ hz=>by first | cases hz | (unfold lG at hz; cases hz),fun _ _ _ _ hz=>by first | cases hz | (unfold kG at hz; cases hz)⟩
 | succ k ih=>exact ⟨fun fV jv aU qK hz τ Q hq=>Zo (jO k) ih.1 (lG k) ih.2.1 (kG k) ih.2.2 fV jv hz hq,fun fV jv aU qK hz τ Q hq=>Vq (jO k) ih.1 (lG k) ih.2.1 (kG k) ih.2.2 fV jv hz hq,fun fV jv aU qK hz τ Q hq=>SC (jO k) ih.1 (lG k) ih.2.1 (kG k) ih.2.2 fV jv hz hq⟩
theorem RO (fV:aj) (jv:List av) {aU:ah} {qK:Int} (hf:L8 fV jv=some (aU,qK)) (h:Q (.ret (.tuple [.agg (aF aU),iP qK])) τ):PC 38 [.agg (aS fV),.list (List.map av.cells jv)] τ Q:=
 ((KY BIG).1) fV jv hf h
theorem agi (fV:aj) (jv:List av) {aU:ah} {qK:Int} (hf:ZM fV jv=some (aU,qK)) (h:Q (.ret (.tuple [.agg (aF aU),iP qK])) τ):PC 71 [.agg (aS fV),.list (List.map av.cells jv)] τ Q:=
 ((KY BIG).2.1) fV jv hf h
theorem ae_ (fV:aj) (jv:List av) {aU:ah} {qK:Int} (hf:XR fV jv=some (aU,qK)) (h:Q (.ret (.tuple [.agg (aF aU),iP qK])) τ):PC 132 [.agg (aS fV),.list (List.map av.cells jv)] τ Q:=
 ((KY BIG).2.2) fV jv hf h

theorem aar (e1:aj) (bK:List av) {r0:ah} {r1:Int} (hf:IQ e1 bK=some (r0,r1)) (h:Q (.ret (.tuple [.agg (aF r0),iP r1])) τ):PC 14 [.agg (aS e1),.list (List.map av.cells bK)] τ Q:=by
 unfold IQ at hf; refine BN 25 [.cell 4 25,.tmp 5] [0,1] Tryz.func14 Z Z Z Z Z (W 1 Z (AS Z (AO.aH Z eY (fun b4=>?_)))); refine B1 hf fun f1 h1 hf=>U 2 Z (CL Z (NM _ h1 (J 3 Z (C hf Z (fun h2 hf=>?_) fun h2 hf=>?_))))
 · cases hf; exact Wx 4 [0] rfl rfl ⟨rfl,_,⟨_,_,rfl,⟨_,_,0,_,_,rfl,rfl,bY,rfl⟩,_,_,rfl,rfl,rfl⟩,[],List.nil_sublist _,h⟩
 refine B1 hf fun f2 h3 hf=>W 1 Z (CL Z (EO _ h3 (J 3 Z (C hf Z (fun h4 hf=>?_) fun h4 hf=>?_))))
 · cases hf; exact Wx 4 [0] rfl rfl ⟨rfl,_,⟨_,_,rfl,⟨_,_,0,_,_,rfl,rfl,bY,rfl⟩,_,_,rfl,rfl,rfl⟩,[],List.nil_sublist _,h⟩
 replace hf:=(gH _).trans hf; obtain ⟨x1,x2,h5,hf⟩:=aY hf; refine W 2 Z (CL Z (RO _ _ h5 ?_)); cases hf; exact Rx 4 [0] rfl rfl ⟨rfl,_,⟨_,_,rfl,⟨_,_,0,_,_,rfl,rfl,bY,rfl⟩,_,_,rfl,rfl,rfl⟩,[],List.nil_sublist _,h⟩

section
variable [Ay]
theorem NV (e1:aj) (bK:List av) {r0:Bool} (hf:ze e1 bK=some r0) (h:Q (.ret (.bool r0)) τ):PC 3 [.agg (aS e1),.list (List.map av.cells bK)] τ Q:=by
 unfold ze at hf; refine BN 50 [.tmp 4] [0,1] Tryz.func3 Z Z Z Z Z (W 4 Z (AS Z (AO.aL (l:=bK) Z Z Z Z kW Z Z ?_))); refine B1 hf fun x1 h1 hf=>CL Z (xU _ _ h1 (J 1 Z (C hf Z (fun h2 hf=>?_) fun h2 hf=>?_)))
 · replace hf:=(aJ _).trans hf; refine B1 hf fun x2 h3 hf=>W 0 Z (CL Z (iF  h3 ?_)); cases hf; exact N 1 Z (Y Z h)
 obtain ⟨x3,f1,h4,hf⟩:=aY hf; refine W 2 Z (CL Z (rM _ _ h4 (U 3 Z (AS Z (AO.aH Z eY (fun b5=>?_)))))); obtain ⟨x4,g1,h5,hf⟩:=aY hf; refine Rr 4 [0] Z Z (CL Z (aar _ _ h5 (U 3 Z (AS Z (AO.aH Z eY (fun b7=>?_)))))); refine B1 hf fun x5 h6 hf=>Rr 4 [0,1,0] Z Z (CL Z (DZ _ _ h6 (U 1 Z (An 4 30 34 [1,5] (f1 == g1) Z Z Z Z ?_)))); refine B1 hf fun b1 h9 hf=>U 1 Z (AR.eX 6 35 41 true [5] b1 Z Z (fun h8=>?_) (fun h8=>?_) ?_)
 · replace h9:=eD h8 h9; refine Is 35 h8 Z ?_; obtain ⟨x6,h10,h9⟩:=aN h9; refine U 1 Z (GO Z (AO.call Z _ Z Z agT (Av _ h10 ?_))); obtain ⟨x7,h11,h9⟩:=aN h9; refine U 1 Z (GO Z (AO.call Z _ Z Z ajB (NM _ h11 ?_))); obtain rfl:=Option.some.inj h9; exact eU 2 Z (En [41,5] Z)
 · replace h9:=eF h8 h9; refine Is 35 h8 Z ?_; obtain rfl:=Option.some.inj h9; exact eU 6 Z (En [41,5] Z)
 refine B1 hf fun b2 jq hf=>U 1 Z (AR.eX 4 42 46 true [] b2 Z Z (fun h12=>?_) (fun h12=>?_) ?_)
 · replace jq:=eD h12 jq; refine Is 42 h12 Z (GO Z (AO.bV (i:=1) Z Z Z bY Z Z ?_)); obtain ⟨x8,kg,jq⟩:=aN jq; refine GO Z (AO.call Z _ Z Z agS (om _ kg ?_)); obtain rfl:=Option.some.inj jq; exact eU 2 Z (En [46] Z)
 · replace jq:=eF h12 jq; refine Is 42 h12 Z ?_; obtain rfl:=Option.some.inj jq; exact eU 4 Z (En [46] Z)
 replace hf:=(aJ _).trans hf; refine B1 hf fun b3 h16 hf=>U 1 Z (AR.eX 2 47 49 true [] b3 Z Z (fun kC=>?_) (fun kC=>?_) ?_)
 · replace h16:=eD kC h16; refine Is 47 kC Z ?_; replace h16:=(aJ _).trans h16; obtain ⟨x9,mQ,h16⟩:=aN h16; refine GO Z (AO.call Z _ Z Z Mc (iF  mQ ?_)); obtain rfl:=Option.some.inj h16; exact eU 1 Z (En [49] Z)
 · replace h16:=eF kC h16; refine Is 47 kC Z ?_; obtain rfl:=Option.some.inj h16; exact eU 2 Z (En [49] Z)
 cases hf; exact N 1 Z (Y Z h)
end


abbrev Sn (oh:aj→List av→Option aj):Prop:=∀ (fV:aj) (jv:List av) {aU:aj},oh fV jv=some aU→∀ {τ:List bE} {Q:eZ→List bE→Prop} (h:Q (.ret (.agg (aS aU))) τ),PC 46 [.agg (aS fV),.list (List.map av.cells jv)] τ Q
theorem Zn (oh) (Wm:Sn oh) (e1:aj) (bK:List av) {r0:aj} (hf:Gn oh e1 bK=some r0) (h:Q (.ret (.agg (aS r0))) τ):PC 46 [.agg (aS e1),.list (List.map av.cells bK)] τ Q:=by
 unfold Gn at hf; refine BN 39 [.cell 4 28] [0,1] Tryz.func46 Z Z Z Z Z (W 0 Z (AS Z (AO.abz Z Z (fun b2=>(AS Z (AO.aH Z kS (fun b4=>?_))))))); obtain ⟨x1,f1,h1,hf⟩:=aY hf; refine Rr 2 [1] Z Z (CL Z (RO _ _ h1 (U 3 Z (AS Z (AO.aH Z eY (fun b5=>(Rw 4 [0] Z Z (C hf Z (fun h2 hf=>?_) fun h2 hf=>?_))))))))
 · cases hf; exact Wx 3 [0,1] Z Z (ZC [1] Z Z h)
 refine V 2 Z (AW.row 10 28 (Vf (fun l1 v1 i1=>[(1,.list (List.map av.cells bK)),(2,pP b2),(4,pP b4),(7,.own v1 (aj.bn l1)),(8,iP i1)]) (fun l1 v1 i1=>[.row v1 (aj.bn l1).length 10 28,.box b5 (aF x1),.box b4 [iP 0,.str ([]:Str),iP 0,.bool false,iP 0,.str ([]:Str),.own (.slice none 0 0) [],.own (.slice none 0 0) [],.own (.slice none 0 0) [],.own (.slice none 0 0) []],.box b2 (aS e1)]) (fun bW l1 v1 i1=>Br oh e1 bK bW l1 i1=some r0) BIG [] (.slice none 0 0) 0 Z Z hf (fun _ _ _ hz=>bQ hz) ?_))
 intro bW l1 v1 i1 hf; rw [Br] at hf; refine Wr 3 [3] Z Z (AS Z (AO.aL (l:=e1.args) Z Z Z Z fM Z (aj.aB _) (J 1 Z (C hf Z (fun h3 hf=>?_) fun h3 hf=>?_))))
 ·
  refine B1 hf fun e2 h4 hf=>Wr 4 [3] Z Z (AS Z (AO.aM h4 Z Z (aj.aB _) Z fM (aj.aG _) Z ?_)); refine B1 hf fun x2 h5 hf=>U 2 rfl (CL rfl (Wm _ _ h5 (AS rfl (AO.bq (aj.bn [x2]) rfl uq rfl rfl rfl (by first | rfl | simp only [List.map,aj.aG,aj.bn]) ?_)))); refine B1 hf fun l2 h6 hf=>AS Z (AO.eP (i:=0) (l:=l1) (m:=[x2]) h6 Z Z Z Z Z Z Z uq fM (aj.aB _) (aj.aB _) (aj.aB _).symm (aj.dV) (aj.cells_one) (by decide) (fun v2 s1 hs1=>?_))
  cases hs1; exact N 4 Z ⟨l2,v2,(bS (i1 + 1)),Z,Z,Z,hf⟩
 cases hf; exact Wx 5 [3,3,2] Z Z (ZC [2] Z Z h)
theorem Z5 :∀ k:Nat,(Sn (nM k)):=by
 intro k
 induction k with
 | zero=>exact fun _ _ _ hz=>by first | cases hz | (unfold nM at hz; cases hz)
 | succ k ih=>exact fun fV jv aU hz τ Q hq=>Zn (nM k) ih fV jv hz hq
theorem aap (fV:aj) (jv:List av) {aU:aj} (hf:Qt fV jv=some aU) (h:Q (.ret (.agg (aS aU))) τ):PC 46 [.agg (aS fV),.list (List.map av.cells jv)] τ Q:=
 ((Z5 BIG)) fV jv hf h

theorem aaq (e1:aj) (bK:List av) {r0:aj} (hf:IL e1 bK=some r0) (h:Q (.ret (.agg (aS r0))) τ):PC 21 [.agg (aS e1),.list (List.map av.cells bK)] τ Q:=by
 unfold IL at hf; refine BN 17 [.cell 4 28] [0,1] Tryz.func21 Z Z Z Z Z (W 1 Z (AS Z (AO.aH Z kS (fun b4=>?_)))); refine B1 hf fun x1 h1 hf=>U 1 Z (CL Z (NM _ h1 ?_)); refine B1 hf fun b1 h3 hf=>U 2 Z (AR.eX 4 8 12 false [1,2,4] b1 Z Z (fun h2=>?_) (fun h2=>?_) ?_)
 · replace h3:=eF h2 h3; refine Is 8 h2 Z ?_; obtain ⟨x2,h4,h3⟩:=aN h3; refine U 1 Z (GO Z (AO.call Z _ Z Z agP (EO _ h4 ?_))); obtain rfl:=Option.some.inj h3; exact eU 2 Z (En [12,1,2,4] Z)
 · replace h3:=eD h2 h3; refine Is 8 h2 Z ?_; obtain rfl:=Option.some.inj h3; exact eU 4 Z (En [12,1,2,4] Z)
 refine J 0 Z (C hf Z (fun h5 hf=>?_) fun h5 hf=>?_)
 · cases hf; exact Wx 2 [0] Z Z (ZC [0] Z Z h)
 replace hf:=(aJ _).trans hf; refine B1 hf fun x3 h6 hf=>W 2 Z (CL Z (aap _ _ h6 ?_)); cases hf; exact Rx 1 [0] Z Z (ZC [0] Z Z h)


abbrev OP (jH:aj→aj→Option Bool):Prop:=∀ (wR:aj) (wQ:aj) {aU:Bool},jH wR wQ=some aU→∀ {τ:List bE} {Q:eZ→List bE→Prop} (h:Q (.ret (.bool aU)) τ),PC 19 [.agg (aS wR),.agg (aS wQ)] τ Q
theorem Xk (jH) (Tg:OP jH) (a1:aj) (b1:aj) {r0:Bool} (hf:Bv jH a1 b1=some r0) (h:Q (.ret (.bool r0)) τ):PC 19 [.agg (aS a1),.agg (aS b1)] τ Q:=by
 unfold Bv at hf; refine BN 82 [.tmp 4] [0,1] Tryz.func19 Z Z Z Z Z (W 9 Z (On 6 12 18 [2,3] (!(a1.name == b1.name)) Z Z Z Z (U 1 Z (AR.or 8 19 27 [2,3] (x:=((a1.keys.length:Int) != (b1.keys.length:Int))) Z Z (fun h2=>?_) (fun h2=>?_) ?_))))
 · refine Is 19 h2 Z (U 2 Z (GO Z (AO.aL (l:=a1.keys) Z Z Z Z dO Z Z (U 2 Z (GO Z (AO.aL (l:=b1.keys) Z Z Z Z dO Z Z ?_)))))); exact eU 2 Z (En [27,2,3] Z)
 · refine Is 19 h2 Z ?_; exact eU 8 Z (En [27,2,3] Z)
 refine U 1 Z (AR.or 8 28 36 [2,3] (x:=((a1.args.length:Int) != (b1.args.length:Int))) Z Z (fun h3=>?_) (fun h3=>?_) ?_)
 · refine Is 28 h3 Z (U 2 Z (GO Z (AO.aL (l:=a1.args) Z Z Z Z fM Z (aj.aB _) (U 2 Z (GO Z (AO.aL (l:=b1.args) Z Z Z Z fM Z (aj.aB _) ?_)))))); exact eU 2 Z (En [36,2,3] Z)
 · refine Is 28 h3 Z ?_; exact eU 8 Z (En [36,2,3] Z)
 refine B1 hf fun b2 h5 hf=>U 1 Z (AR.eX 7 37 44 false [2,3] b2 Z Z (fun h4=>?_) (fun h4=>?_) ?_)
 · replace h5:=eF h4 h5; refine Is 37 h4 Z ?_; obtain ⟨x1,h6,h5⟩:=aN h5; refine U 4 Z (GO Z (AO.call Z _ Z Z agN (Jy _ _ h6 ?_))); obtain rfl:=Option.some.inj h5; exact eU 2 Z (En [44,2,3] Z)
 · replace h5:=eD h4 h5; refine Is 37 h4 Z ?_; obtain rfl:=Option.some.inj h5; exact eU 7 Z (En [44,2,3] Z)
 refine J 0 Z (C hf Z (fun h7 hf=>?_) fun h7 hf=>?_)
 · cases hf; exact M 1 Z (Y Z h)
 refine V 1 Z (Gc (fun i1=>[(2,.ref (aS a1)),(3,.ref (aS b1)),(5,iP i1)]) (fun i1=>[]) (fun bW i1=>yG jH a1 b1 bW i1=some r0) BIG 0 Z Z hf (fun _ hz=>bQ hz) ?_); intro bW i1 hf; rw [yG] at hf; refine W 3 Z (AS Z (AO.aL (l:=a1.keys) Z Z Z Z dO Z Z (J 1 Z (C hf Z (fun h8 hf=>?_) fun h8 hf=>?_))))
 ·
  refine V 0 Z (AW.draw 11 mixed (by kernel_rfl) Z ?_); refine Ev.cs aP 3 Z ?_; refine B1 hf fun e1 h9 hf=>Ev.cons Z Z Z (AO.aM h9 Z Z Z Z dO Z Z zg) (Ev.cs aP 4 Z ?_); refine B1 hf fun e2 h10 hf=>Ev.cons Z Z Z (AO.aM h10 Z Z Z Z dO Z Z zg) (Ev.cs aP 2 Z (Ev.nil ?_)); show AR _ _ _ _ _ _ _ _
  refine J 0 Z (C hf Z (fun h11 hf=>?_) fun h11 hf=>?_)
  · cases hf; exact M 1 Z (Y Z h)
  exact M 3 Z ⟨(bS (i1 + 1)),Z,Z,Z,hf⟩
 refine V 1 Z (Gc (fun i2=>[(2,.ref (aS a1)),(3,.ref (aS b1)),(6,iP i2)]) (fun i2=>[]) (fun EB i2=>pR jH a1 b1 EB i2=some r0) BIG 0 Z Z hf (fun _ hz=>bQ hz) ?_); intro EB i2 hf; rw [pR] at hf; refine W 3 Z (AS Z (AO.aL (l:=a1.args) Z Z Z Z fM Z (aj.aB _) (J 1 Z (C hf Z (fun h12 hf=>?_) fun h12 hf=>?_))))
 ·
  refine V 0 Z (AW.draw 12 mixed (by kernel_rfl) Z ?_); refine Ev.cs aP 3 Z ?_; refine B1 hf fun e3 jq hf=>Ev.cons Z Z Z (AO.aM jq Z Z (aj.aB _) Z fM (aj.aG _) Z zg) (Ev.cs aP 4 Z ?_); refine B1 hf fun e4 kg hf=>Ev.cons Z Z Z (AO.aM kg Z Z (aj.aB _) Z fM (aj.aG _) Z zg) (Ev.cs aP 1 Z ?_); refine B1 hf fun x2 kC hf=>Ev.cons Z Z Z (AO.call Z _ Z Z agR (Tg _ _ kC zg)) (Ev.cs aP 1 Z (Ev.nil ?_)); show AR _ _ _ _ _ _ _ _
  refine J 0 Z (C hf Z (fun h16 hf=>?_) fun h16 hf=>?_)
  · cases hf; exact M 1 Z (Y Z h)
  exact M 3 Z ⟨(bS (i2 + 1)),Z,Z,Z,hf⟩
 cases hf; exact M 1 Z (Y Z h)
theorem Yb :∀ k:Nat,(OP (pQ k)):=by
 intro k
 induction k with
 | zero=>exact fun _ _ _ hz=>by first | cases hz | (unfold pQ at hz; cases hz)
 | succ k ih=>exact fun wR wQ aU hz τ Q hq=>Xk (pQ k) ih wR wQ hz hq
theorem Y0 (wR:aj) (wQ:aj) {aU:Bool} (hf:CW wR wQ=some aU) (h:Q (.ret (.bool aU)) τ):PC 19 [.agg (aS wR),.agg (aS wQ)] τ Q:=
 ((Yb BIG)) wR wQ hf h

section
variable [Ay]
theorem N7 (e1:aj) (bK:List av) {r0:Bool} (hf:zl e1 bK=some r0) (h:Q (.ret (.bool r0)) τ):PC 4 [.agg (aS e1),.list (List.map av.cells bK)] τ Q:=by
 unfold zl at hf; refine BN 21 [.tmp 4] [0,1] Tryz.func4 Z Z Z Z Z (W 4 Z (AS Z (AO.aL (l:=bK) Z Z Z Z kW Z Z ?_))); refine B1 hf fun x1 h1 hf=>CL Z (xU _ _ h1 (J 1 Z (C hf Z (fun h2 hf=>?_) fun h2 hf=>?_)))
 · replace hf:=(aJ _).trans hf; refine B1 hf fun x2 h3 hf=>W 0 Z (CL Z (iF  h3 ?_)); cases hf; exact N 1 Z (Y Z h)
 refine V 0 Z (AW.draw 11 mixed (by kernel_rfl) Z ?_); refine Ev.cs aP 2 Z ?_; refine B1 hf fun x3 h4 hf=>Ev.cons Z Z Z (AO.call Z _ Z Z agQ (JE _ _ h4 zg)) (Ev.cs aP 2 Z ?_); refine B1 hf fun x4 h5 hf=>Ev.cons Z Z Z (AO.call Z _ Z Z ajA (aaq _ _ h5 zg)) ?_; refine B1 hf fun x5 h6 hf=>Ev.cons Z Z Z (AO.call Z _ Z Z agR (Y0 _ _ h6 zg)) (Ev.cs aP 1 Z ?_); replace hf:=(aJ _).trans hf; refine B1 hf fun b1 h8 hf=>Ev.eX hKA 2 18 20 true [] (.bool b1) Z Z (fun h7=>?_) (fun h7=>?_) ?_
 · replace h8:=eD h7 h8; refine Ev.is Yt 18 h7 Z ?_; replace h8:=(aJ _).trans h8; obtain ⟨x6,h9,h8⟩:=aN h8; refine Ev.run Z Z Z Z Z Z Z (AO.call Z _ Z Z Mc (iF  h9 zg)) ?_; obtain rfl:=Option.some.inj h8; refine Ev.cs aP 1 Z ?_; exact Ev.nil (Less.settle (ps:=[20]) Z)
 · replace h8:=eF h7 h8; refine Ev.is Yt 18 h7 Z ?_; obtain rfl:=Option.some.inj h8; refine Ev.cs aP 2 Z ?_; exact Ev.nil (Less.settle (ps:=[20]) Z)
 refine Ev.cs aP 1 Z (Ev.nil ?_); show AR _ _ _ _ _ _ _ _
 cases hf; exact N 0 Z (Y Z h)
end

section
variable [Ay]
theorem Pm (e1:aj) (bK:List av) (oJ:List av) {r0:Bool} (hf:A9 e1 bK oJ=some r0) (h:Q (.ret (.bool r0)) τ):PC 5 [.agg (aS e1),.list (List.map av.cells bK),.list (List.map av.cells oJ)] τ Q:=by
 unfold A9 at hf; refine BN 66 [.tmp 6] [0,1,2] Tryz.func5 Z Z Z Z Z (W 4 Z (AS Z (AO.aL (l:=bK) Z Z Z Z kW Z Z (U 1 Z (AS Z (AO.aL (l:=oJ) Z Z Z Z kW Z Z ?_)))))); refine B1 hf fun x1 h1 hf=>U 1 Z (CL Z (xU _ _ h1 (J 1 Z (C hf Z (fun h2 hf=>?_) fun h2 hf=>?_))))
 · replace hf:=(aJ _).trans hf; refine B1 hf fun x2 h3 hf=>W 0 Z (CL Z (iF  h3 ?_)); cases hf; exact N 1 Z (Y Z h)
 refine W 3 Z (AR.row 7 47 ?_); refine B1 hf fun all1 h4 hf=>AS Z (AO.eP (i:=0) (l:=[]) (m:=oJ) h4 Z Z Z Z Z Z Z Cg kW Z Z Z (av.dV) (av.cells_one) (by decide) (fun v1 s1 hs1=>?_)); cases hs1; refine B1 hf fun all2 h5 hf=>U 3 Z (AS Z (AO.eP (i:=0) (l:=all1) (m:=bK) h5 Z Z Z Z Z Z Z Cg kW Z Z Z (av.dV) (av.cells_one) (by decide) (fun v2 s2 hs2=>?_))); cases hs2; refine B1 hf fun x3 h6 hf=>U 2 Z (CL Z (Av _ h6 ?_)); refine B1 hf fun b1 h8 hf=>U 2 Z (AR.eX 4 31 35 false [1,3,7] b1 Z Z (fun h7=>?_) (fun h7=>?_) ?_)
 · replace h8:=eF h7 h8; refine Is 31 h7 Z ?_; obtain ⟨x4,h9,h8⟩:=aN h8; refine U 1 Z (GO Z (AO.call Z _ Z Z ajz (qY _ h9 ?_))); obtain rfl:=Option.some.inj h8; exact eU 2 Z (En [35,1,3,7] Z)
 · replace h8:=eD h7 h8; refine Is 31 h7 Z ?_; obtain rfl:=Option.some.inj h8; exact eU 4 Z (En [35,1,3,7] Z)
 refine J 0 Z (C hf Z (fun h10 hf=>?_) fun h10 hf=>?_)
 · replace hf:=(aJ _).trans hf; refine B1 hf fun x5 h11 hf=>W 0 Z (CL Z (iF  h11 ?_)); cases hf; exact N 1 Z (Y Z h)
 refine B1 hf fun x6 h12 hf=>W 2 Z (CL Z (JE _ _ h12 (AS Z (AO.aH Z kS (fun b8=>?_))))); refine B1 hf fun x7 jq hf=>Rr 2 [0,0] Z Z (CL Z (qY _ jq (J 1 Z (C hf Z (fun kg hf=>?_) fun kg hf=>?_))))
 · cases hf; exact M 1 Z (Y Z h)
 obtain ⟨x8,f1,kC,hf⟩:=aY hf; refine W 2 Z (CL Z (rM _ _ kC (U 3 Z (AS Z (AO.aH Z eY (fun b9=>?_)))))); obtain ⟨x9,g1,h16,hf⟩:=aY hf; refine Rr 4 [0,1] Z Z (CL Z (rM _ _ h16 (U 3 Z (AS Z (AO.aH Z eY (fun b11=>?_)))))); refine B1 hf fun b2 h18 hf=>Rr 6 [0] Z Z (AR.eX 4 58 62 true [] b2 Z Z (fun mQ=>?_) (fun mQ=>?_) ?_)
 · replace h18:=eD mQ h18; refine Is 58 mQ Z (GO Z (AO.bV (i:=1) Z Z Z bY Z Z (GO Z (AO.bV (i:=0) Z Z Z bY Z Z ?_)))); replace h18:=(aJ _).trans h18; obtain ⟨CO,h19,h18⟩:=aN h18; refine GO Z (AO.call Z _ Z Z X0 (DZ _ _ h19 ?_)); obtain rfl:=Option.some.inj h18; exact eU 1 Z (En [62] Z)
 · replace h18:=eF mQ h18; refine Is 58 mQ Z ?_; obtain rfl:=Option.some.inj h18; exact eU 4 Z (En [62] Z)
 replace hf:=(aJ _).trans hf; refine B1 hf fun b3 h21 hf=>U 1 Z (AR.eX 2 63 65 true [] b3 Z Z (fun h20=>?_) (fun h20=>?_) ?_)
 · replace h21:=eD h20 h21; refine Is 63 h20 Z ?_; replace h21:=(aJ _).trans h21; obtain ⟨KP,h22,h21⟩:=aN h21; refine GO Z (AO.call Z _ Z Z Mc (iF  h22 ?_)); obtain rfl:=Option.some.inj h21; exact eU 1 Z (En [65] Z)
 · replace h21:=eF h20 h21; refine Is 63 h20 Z ?_; obtain rfl:=Option.some.inj h21; exact eU 2 Z (En [65] Z)
 cases hf; exact N 1 Z (Y Z h)
end


abbrev OM (jm:aj→Option (List Str)):Prop:=∀ (fV:aj) {aU:List Str},jm fV=some aU→∀ {τ:List bE} {Q:eZ→List bE→Prop} (h:Q (.ret (sP aU)) τ),PC 50 [.agg (aS fV)] τ Q
theorem Xi (jm) (Kw:OM jm) (e1:aj) {r0:List Str} (hf:Em jm e1=some r0) (h:Q (.ret (sP r0)) τ):PC 50 [.agg (aS e1)] τ Q:=by
 unfold Em at hf; refine BN 29 [.tmp 2] [0] Tryz.func50 Z Z Z Z Z (W 1 Z (AS Z (AO.nR Z Z (J 4 Z (C hf Z (fun h1 hf=>?_) fun h1 hf=>?_)))))
 ·
  refine W 3 Z (AS Z (AO.bq (List.map ko ([e1.name]:List Str)) Z kU Z Z Z Z (AR.row 1 9 ?_))); refine B1 hf fun l1 h2 hf=>AS Z (AO.eP (i:=0) (l:=[]) (m:=([e1.name]:List Str)) h2 Z Z Z Z Z Z Z kU dO Z Z Z (fun _=>Z) (fun _=>Z) (by decide) (fun v1 s1 hs1=>?_)); cases hs1
  refine J 2 Z (Vf (fun l2 v2 i1=>[(1,.ref (aS e1)),(3,.own v2 (List.map ko l2)),(4,iP i1)]) (fun l2 v2 i1=>[.row v2 (List.map ko l2).length 1 9]) (fun bW l2 v2 i1=>yD jm e1 bW l2 i1=some r0) BIG l1 v1 0 Z Z hf (fun _ _ _ hz=>bQ hz) ?_); intro bW l2 v2 i1 hf; rw [yD] at hf; refine W 3 Z (AS Z (AO.aL (l:=e1.args) Z Z Z Z fM Z (aj.aB _) (J 1 Z (C hf Z (fun h3 hf=>?_) fun h3 hf=>?_))))
  · refine B1 hf fun e2 h4 hf=>W 4 Z (AS Z (AO.aM h4 Z Z (aj.aB _) Z fM (aj.aG _) Z ?_)); refine B1 hf fun x1 h5 hf=>U 1 Z (CL Z (Kw _ h5 ?_)); refine B1 hf fun l3 h6 hf=>AS Z (AO.eP (i:=0) (l:=l2) (m:=x1) h6 Z Z Z Z Z Z Z kU dO Z Z Z (fun _=>Z) (fun _=>Z) (by decide) (fun v3 s2 hs2=>?_)); cases hs2; exact N 4 Z ⟨l3,v3,(bS (i1 + 1)),Z,Z,Z,hf⟩
  cases hf; exact M 2 Z (Y Z h)
 refine V 1 Z (AW.row 1 9 (Vf (fun l4 v4 i2=>[(1,.ref (aS e1)),(3,.own v4 (List.map ko l4)),(4,iP i2)]) (fun l4 v4 i2=>[.row v4 (List.map ko l4).length 1 9]) (fun EB l4 v4 i2=>yC jm e1 EB l4 i2=some r0) BIG [] (.slice none 0 0) 0 Z Z hf (fun _ _ _ hz=>bQ hz) ?_)); intro EB l4 v4 i2 hf; rw [yC] at hf; refine W 3 Z (AS Z (AO.aL (l:=e1.args) Z Z Z Z fM Z (aj.aB _) (J 1 Z (C hf Z (fun h7 hf=>?_) fun h7 hf=>?_))))
 · refine B1 hf fun e3 h8 hf=>W 4 Z (AS Z (AO.aM h8 Z Z (aj.aB _) Z fM (aj.aG _) Z ?_)); refine B1 hf fun x2 h9 hf=>U 1 Z (CL Z (Kw _ h9 ?_)); refine B1 hf fun l5 h10 hf=>AS Z (AO.eP (i:=0) (l:=l4) (m:=x2) h10 Z Z Z Z Z Z Z kU dO Z Z Z (fun _=>Z) (fun _=>Z) (by decide) (fun v5 s3 hs3=>?_)); cases hs3; exact N 4 Z ⟨l5,v5,(bS (i2 + 1)),Z,Z,Z,hf⟩
 cases hf; exact M 2 Z (Y Z h)
theorem X_ :∀ k:Nat,(OM (lU k)):=by
 intro k
 induction k with
 | zero=>exact fun _ _ hz=>by first | cases hz | (unfold lU at hz; cases hz)
 | succ k ih=>exact fun fV aU hz τ Q hq=>Xi (lU k) ih fV hz hq
theorem YT (fV:aj) {aU:List Str} (hf:JZ fV=some aU) (h:Q (.ret (sP aU)) τ):PC 50 [.agg (aS fV)] τ Q:=
 ((X_ BIG)) fV hf h

theorem WV (rQ:List Str) {r0:List Str} (hf:Dp rQ=some r0) (h:Q (.ret (sP r0)) τ):PC 49 [sP rQ] τ Q:=by
 unfold Dp at hf; refine BN 64 [.tmp 2] [0] Tryz.func49 Z Z Z Z Z (V 3 Z (AW.row 1 9 (Vf (fun aT v1 i1=>[(0,sP rQ),(3,.own v1 (List.map ko aT)),(4,iP i1)]) (fun aT v1 i1=>[.row v1 (List.map ko aT).length 1 9]) (fun bW aT v1 i1=>n_ rQ bW aT i1=some r0) BIG [] (.slice none 0 0) 0 Z Z hf (fun _ _ _ hz=>bQ hz) ?_))); intro bW aT v1 i1 hf; rw [n_] at hf; refine W 2 Z (AS Z (AO.aL (l:=rQ) Z Z Z Z dO Z Z (J 1 Z (C hf Z (fun h1 hf=>?_) fun h1 hf=>?_))))
 ·
  refine W 1 Z (AS Z (AO.aL (l:=aT) Z Z Z Z dO Z Z (J 1 Z (Gc (fun jI=>[(0,sP rQ),(3,.own v1 (List.map ko aT)),(4,iP i1),(5,iP jI)]) (fun jI=>[.row v1 (List.map ko aT).length 1 9]) (fun EB jI=>qy rQ aT i1 (n_ rQ bW) EB jI=some r0) BIG (aT.length:Int) Z Z hf (fun _ hz=>bQ hz) ?_)))); intro EB jI hf; rw [qy] at hf; refine V 0 Z (AW.draw 15 mixed (by kernel_rfl) Z ?_); refine Ev.cs aP 3 Z ?_; refine B1 hf fun b1 h3 hf=>Ev.eX hKA 12 17 29 true [0,3,4,5] (.bool b1) Z Z (fun h2=>?_) (fun h2=>?_) ?_
  ·
   replace h3:=eD h2 h3; refine Ev.is Yt 17 h2 Z (Ev.cs aP 2 Z ?_); obtain ⟨e1,h4,h3⟩:=aN h3; refine Ev.run Z Z Z Z Z Z Z (AO.aM h4 Z Z Z Z dO Z Z zg) (Ev.cs aP 4 Z ?_); obtain ⟨e2,h5,h3⟩:=aN h3; refine Ev.run Z Z Z Z Z Z Z (AO.aM h5 Z Z Z Z dO Z Z zg) (Ev.cs aP 1 Z ?_); obtain ⟨x1,h6,h3⟩:=aN h3; refine Ev.run Z Z Z Z Z Z Z (AO.call Z _ Z Z aa3 (Bc _ _ h6 zg)) (Ev.cs aP 1 Z ?_); obtain rfl:=Option.some.inj h3
   refine Ev.cs aP 1 Z ?_; exact Ev.nil (Less.settle (ps:=[29,0,3,4,5]) Z)
  · replace h3:=eF h2 h3; refine Ev.is Yt 17 h2 Z ?_; obtain rfl:=Option.some.inj h3; refine Ev.cs aP 12 Z ?_; exact Ev.nil (Less.settle (ps:=[29,0,3,4,5]) Z)
  refine Ev.nil ?_; show AR _ _ _ _ _ _ _ _
  refine J 0 Z (C hf Z (fun h7 hf=>?_) fun h7 hf=>?_)
  · exact M 3 Z ⟨(bS (jI - 1)),Z,Z,Z,hf⟩
  refine V 0 Z (AW.draw 14 mixed (by kernel_rfl) Z ?_); refine Ev.cs aP 3 Z ?_; refine B1 hf fun b2 h9 hf=>Ev.eX hKA 11 34 45 true [0,3,4,5] (.bool b2) Z Z (fun h8=>?_) (fun h8=>?_) ?_
  · replace h9:=eD h8 h9; refine Ev.is Yt 34 h8 Z (Ev.cs aP 3 Z ?_); obtain ⟨e3,h10,h9⟩:=aN h9; refine Ev.run Z Z Z Z Z Z Z (AO.aM h10 Z Z Z Z dO Z Z zg) (Ev.cs aP 3 Z ?_); obtain ⟨e4,h11,h9⟩:=aN h9; refine Ev.run Z Z Z Z Z Z Z (AO.aM h11 Z Z Z Z dO Z Z zg) (Ev.cs aP 2 Z ?_); obtain rfl:=Option.some.inj h9; refine Ev.cs aP 1 Z ?_; exact Ev.nil (Less.settle (ps:=[45,0,3,4,5]) Z)
  · replace h9:=eF h8 h9; refine Ev.is Yt 34 h8 Z ?_; obtain rfl:=Option.some.inj h9; refine Ev.cs aP 11 Z ?_; exact Ev.nil (Less.settle (ps:=[45,0,3,4,5]) Z)
  refine Ev.nil ?_; show AR _ _ _ _ _ _ _ _
  refine J 0 Z (C hf Z (fun h12 hf=>?_) fun h12 hf=>?_)
  · exact M 3 Z ⟨aT,v1,(bS (i1 + 1)),Z,Z,Z,hf⟩
  refine W 0 Z (AS Z (AO.wY [] Z kU Z Z Z Z Z (fun v2=>?_))); refine B1 hf fun x2 jq hf=>U 2 Z (AS Z (AO.VD jq Z dO Z Z Z (fun _=>Z) Z ⟨_,Z⟩ ?_)); refine B1 hf fun BH kg hf=>AS Z (AO.eP (i:=0) (l:=[]) (m:=x2) kg Z Z Z Z Z Z Z kU dO Z Z Z (fun _=>Z) (fun _=>Z) (by decide) (fun v3 s1 hs1=>?_)); cases hs1; refine B1 hf fun e5 kC hf=>U 4 Z (AS Z (AO.aM kC Z Z Z Z dO Z Z (U 1 Z (AS Z (AO.bq (List.map ko ([e5]:List Str)) Z kU Z Z Z Z ?_)))))
  refine B1 hf fun QH h16 hf=>AS Z (AO.eP (i:=0) (l:=BH) (m:=([e5]:List Str)) h16 Z Z Z Z Z Z Z kU dO Z Z Z (fun _=>Z) (fun _=>Z) (by decide) (fun v4 s2 hs2=>?_)); cases hs2; refine B1 hf fun x3 mQ hf=>U 4 Z (AS Z (AO.VD mQ Z dO Z Z Z (fun _=>Z) ⟨_,Z⟩ Z ?_)); refine B1 hf fun Cq h18 hf=>AS Z (AO.eP (i:=0) (l:=QH) (m:=x3) h18 Z Z Z Z Z Z Z kU dO Z Z Z (fun _=>Z) (fun _=>Z) (by decide) (fun v5 s3 hs3=>?_)); cases hs3
  refine eU 4 Z (AR.aag 1 Z ?_); exact N 0 Z ⟨Cq,v5,(bS (i1 + 1)),Z,Z,Z,hf⟩
 cases hf; exact M 2 Z (Y Z h)

theorem YU (e1:aj) {r0:List Str} (hf:FJ e1=some r0) (h:Q (.ret (sP r0)) τ):PC 23 [.agg (aS e1)] τ Q:=by
 unfold FJ at hf; refine BN 6 [.tmp 2] [0] Tryz.func23 Z Z Z Z Z (W 1 Z (AS Z (AO.nR Z Z ?_))); refine B1 hf fun x1 h1 hf=>U 1 Z (CL Z (YT _ h1 ?_)); replace hf:=(aJ _).trans hf; refine B1 hf fun x2 h2 hf=>CL Z (WV _ h2 ?_); cases hf; exact N 1 Z (Y Z h)

section
variable [Ay]
theorem NW (e1:aj) (bK:List av) (x1:av) {r0:Bool} (hf:zh e1 bK x1=some r0) (h:Q (.ret (.bool r0)) τ):PC 6 [.agg (aS e1),.list (List.map av.cells bK),.agg (za x1)] τ Q:=by
 unfold zh at hf; refine BN 70 [.tmp 6] [0,1,2] Tryz.func6 Z Z Z Z Z (W 5 Z (AS Z (AO.aL (l:=bK) Z Z Z Z kW Z Z ?_))); refine B1 hf fun x2 h1 hf=>CL Z (xU _ _ h1 (J 1 Z (C hf Z (fun h2 hf=>?_) fun h2 hf=>?_)))
 · replace hf:=(aJ _).trans hf; refine B1 hf fun x3 h3 hf=>W 0 Z (CL Z (iF  h3 ?_)); cases hf; exact N 1 Z (Y Z h)
 refine W 3 rfl (AS rfl (AO.bq (List.map av.cells [x1]) rfl Cg rfl rfl rfl (by first | rfl | simp only [List.map,av.aG]) ?_)); refine AR.row 7 47 ?_; refine B1 hf fun oJ h4 hf=>AS Z (AO.eP (i:=0) (l:=[]) (m:=[x1]) h4 Z Z Z Z Z Z Z Cg kW Z Z Z (av.dV) (av.cells_one) (by decide) (fun v1 s1 hs1=>?_)); cases hs1; refine B1 hf fun Mh h5 hf=>U 3 Z (AS Z (AO.eP (i:=0) (l:=oJ) (m:=bK) h5 Z Z Z Z Z Z Z Cg kW Z Z Z (av.dV) (av.cells_one) (by decide) (fun v2 s2 hs2=>?_)))
 cases hs2; refine B1 hf fun x4 h6 hf=>U 2 Z (CL Z (Av _ h6 (J 1 Z (C hf Z (fun h7 hf=>?_) fun h7 hf=>?_))))
 · replace hf:=(aJ _).trans hf; refine B1 hf fun x5 h8 hf=>W 0 Z (CL Z (iF  h8 ?_)); cases hf; exact N 1 Z (Y Z h)
 refine B1 hf fun l1 h9 hf=>W 1 Z (CL Z (YU _ h9 ?_)); refine J 2 Z (Gc (fun i1=>[(1,.list (List.map av.cells bK)),(3,.ref (aS e1)),(5,.ref (za x1)),(7,.own v2 (List.map av.cells Mh)),(8,sP l1),(9,iP i1)]) (fun i1=>[.row v2 (List.map av.cells Mh).length 7 47]) (fun bW i1=>p9 e1 bK x1 Mh l1 bW i1=some r0) BIG 0 Z Z hf (fun _ hz=>bQ hz) ?_); intro bW i1 hf; rw [p9] at hf
 refine W 2 Z (AS Z (AO.aL (l:=l1) Z Z Z Z dO Z Z (J 1 Z (C hf Z (fun h10 hf=>?_) fun h10 hf=>?_))))
 ·
  refine V 0 Z (AW.draw 7 mixed (by kernel_rfl) Z ?_); refine Ev.cs aP 2 Z ?_; refine B1 hf fun e2 h11 hf=>Ev.cons Z Z Z (AO.aM h11 Z Z Z Z dO Z Z zg) (Ev.cs aP 4 Z (Ev.nil ?_)); show AR _ _ _ _ _ _ _ _
  refine J 0 Z (C hf Z (fun h12 hf=>?_) fun h12 hf=>?_)
  · replace hf:=(aJ _).trans hf; refine B1 hf fun x6 jq hf=>W 0 Z (CL Z (iF  jq ?_)); cases hf; exact N 1 Z (Y Z h)
  exact M 3 Z ⟨(bS (i1 + 1)),Z,Z,Z,hf⟩
 obtain ⟨x7,f1,kg,hf⟩:=aY hf; refine W 2 Z (CL Z (rM _ _ kg (U 3 Z (AS Z (AO.aH Z eY (fun b10=>?_)))))); obtain ⟨x8,g1,kC,hf⟩:=aY hf; refine Rr 4 [0] Z Z (CL Z (rM _ _ kC (U 3 Z (AS Z (AO.aH Z eY (fun b12=>?_)))))); refine B1 hf fun b1 mQ hf=>Rr 6 [0] Z Z (AR.eX 4 62 66 true [] b1 Z Z (fun h16=>?_) (fun h16=>?_) ?_)
 · replace mQ:=eD h16 mQ; refine Is 62 h16 Z (GO Z (AO.bV (i:=1) Z Z Z bY Z Z (GO Z (AO.bV (i:=0) Z Z Z bY Z Z ?_)))); replace mQ:=(aJ _).trans mQ; obtain ⟨x9,h18,mQ⟩:=aN mQ; refine GO Z (AO.call Z _ Z Z X0 (DZ _ _ h18 ?_)); obtain rfl:=Option.some.inj mQ; exact eU 1 Z (En [66] Z)
 · replace mQ:=eF h16 mQ; refine Is 62 h16 Z ?_; obtain rfl:=Option.some.inj mQ; exact eU 4 Z (En [66] Z)
 replace hf:=(aJ _).trans hf; refine B1 hf fun b2 h20 hf=>U 1 Z (AR.eX 2 67 69 true [] b2 Z Z (fun h19=>?_) (fun h19=>?_) ?_)
 · replace h20:=eD h19 h20; refine Is 67 h19 Z ?_; replace h20:=(aJ _).trans h20; obtain ⟨CO,h21,h20⟩:=aN h20; refine GO Z (AO.call Z _ Z Z Mc (iF  h21 ?_)); obtain rfl:=Option.some.inj h20; exact eU 1 Z (En [69] Z)
 · replace h20:=eF h19 h20; refine Is 67 h19 Z ?_; obtain rfl:=Option.some.inj h20; exact eU 2 Z (En [69] Z)
 cases hf; exact N 1 Z (Y Z h)
end

section
variable [Ay]
theorem MR (x1:Int) (y1:Int) {r0:Bool} (hf:wT x1 y1=some r0) (h:Q (.ret (.bool r0)) τ):PC 7 [iP x1,iP y1] τ Q:=by
 unfold wT at hf; refine BN 66 [.tmp 4] [0,1] Tryz.func7 Z Z Z Z Z (W 4 Z (On 3 12 15 [0,1] (decide (9007199254740992 < x1)) Z Z Z Z (U 1 Z (On 3 16 19 [0,1] (decide (y1 < (-9007199254740992))) Z Z Z Z (U 1 Z (On 3 20 23 [0,1] (decide (9007199254740992 < y1)) Z Z Z Z ?_)))))); refine J 0 Z (C hf Z (fun h4 hf=>?_) fun h4 hf=>?_)
 · replace hf:=(aJ _).trans hf; refine B1 hf fun x2 h5 hf=>W 0 Z (CL Z (iF  h5 ?_)); cases hf; exact N 1 Z (Y Z h)
 refine W 6 rfl (AS rfl (AO.bq (List.map av.cells [(av.mk ([120]:Str) (ah.mk 2 false x1 ([]:Str) [] [])),(av.mk ([121]:Str) (ah.mk 2 false y1 ([]:Str) [] []))]) rfl Cg rfl rfl rfl (by first | rfl | simp only [List.map,av.aG]) ?_)); obtain ⟨s1,e1,h6,hf⟩:=aY hf; refine U 2 Z (CL Z (rH _ _ h6 (J 7 Z (C hf Z (fun h7 hf=>?_) fun h7 hf=>?_))))
 ·
  replace hf:=(aJ _).trans hf; refine B1 hf fun b1 h9 hf=>W 3 Z (AR.eX 2 41 43 true [] b1 Z Z (fun h8=>?_) (fun h8=>?_) ?_)
  · replace h9:=eD h8 h9; refine Is 41 h8 Z ?_; replace h9:=(aJ _).trans h9; obtain ⟨x3,h10,h9⟩:=aN h9; refine GO Z (AO.call Z _ Z Z Mc (iF  h10 ?_)); obtain rfl:=Option.some.inj h9; exact eU 1 Z (En [43] Z)
  · replace h9:=eF h8 h9; refine Is 41 h8 Z ?_; obtain rfl:=Option.some.inj h9; exact eU 2 Z (En [43] Z)
  cases hf; exact N 1 Z (Y Z h)
 obtain ⟨t1,f1,h11,hf⟩:=aY hf; refine W 1 Z (CL Z (rH _ _ h11 (U 8 Z (An 3 51 54 [8,9] (s1 == ([116,114,117,101]:Str)) Z Z Z Z (U 1 Z (An 3 55 58 [8] (f1 == 0) Z Z Z Z (U 1 Z (An 3 59 62 [] (t1 == ([116,114,117,101]:Str)) Z Z Z Z ?_)))))))); replace hf:=(aJ _).trans hf; refine B1 hf fun b2 h16 hf=>U 1 Z (AR.eX 2 63 65 true [] b2 Z Z (fun kC=>?_) (fun kC=>?_) ?_)
 · replace h16:=eD kC h16; refine Is 63 kC Z ?_; replace h16:=(aJ _).trans h16; obtain ⟨x4,mQ,h16⟩:=aN h16; refine GO Z (AO.call Z _ Z Z Mc (iF  mQ ?_)); obtain rfl:=Option.some.inj h16; exact eU 1 Z (En [65] Z)
 · replace h16:=eF kC h16; refine Is 63 kC Z ?_; obtain rfl:=Option.some.inj h16; exact eU 2 Z (En [65] Z)
 cases hf; exact N 1 Z (Y Z h)
end

section
variable [Ay]
theorem NZ (a1:aj) (b1:aj) (bK:List av) {r0:Bool} (hf:zk a1 b1 bK=some r0) (h:Q (.ret (.bool r0)) τ):PC 8 [.agg (aS a1),.agg (aS b1),.list (List.map av.cells bK)] τ Q:=by
 unfold zk at hf; refine BN 70 [.tmp 6] [0,1,2] Tryz.func8 Z Z Z Z Z (W 5 Z (AS Z (AO.aL (l:=bK) Z Z Z Z kW Z Z ?_))); refine B1 hf fun x1 h1 hf=>CL Z (xU _ _ h1 ?_); refine B1 hf fun b2 h3 hf=>U 2 Z (AR.eX 4 18 22 false [2,3,4] b2 Z Z (fun h2=>?_) (fun h2=>?_) ?_)
 · replace h3:=eF h2 h3; refine Is 18 h2 Z ?_; obtain ⟨x2,h4,h3⟩:=aN h3; refine U 1 Z (GO Z (AO.call Z _ Z Z ajC (xU _ _ h4 ?_))); obtain rfl:=Option.some.inj h3; exact eU 2 Z (En [22,2,3,4] Z)
 · replace h3:=eD h2 h3; refine Is 18 h2 Z ?_; obtain rfl:=Option.some.inj h3; exact eU 4 Z (En [22,2,3,4] Z)
 refine J 0 Z (C hf Z (fun h5 hf=>?_) fun h5 hf=>?_)
 · replace hf:=(aJ _).trans hf; refine B1 hf fun x3 h6 hf=>W 0 Z (CL Z (iF  h6 ?_)); cases hf; exact N 1 Z (Y Z h)
 refine W 2 rfl (AS rfl (AO.bq (aj.bn [a1,b1]) rfl uq rfl rfl rfl (by first | rfl | simp only [List.map,aj.aG,aj.bn]) ?_)); refine U 1 rfl (AS rfl (AO.bq (aj.bn [(aj.mk 7 ([38,38]:Str) (ah.mk 0 false 0 ([]:Str) [] []) [a1,b1] [])]) rfl uq rfl rfl rfl (by first | rfl | simp only [List.map,aj.aG,aj.bn]) ?_))
 refine U 1 rfl (AS rfl (AO.aH rfl kS (fun b7=>(Rr 2 [0] rfl rfl (AS rfl (AO.bq (aj.bn [a1]) rfl uq rfl rfl rfl (by first | rfl | simp only [List.map,aj.aG,aj.bn]) ?_)))))); refine U 2 rfl (AS rfl (AO.bq (aj.bn [b1]) rfl uq rfl rfl rfl (by first | rfl | simp only [List.map,aj.aG,aj.bn]) ?_))
 refine U 1 rfl (AS rfl (AO.bq (aj.bn [(aj.mk 6 ([33]:Str) (ah.mk 0 false 0 ([]:Str) [] []) [a1] []),(aj.mk 6 ([33]:Str) (ah.mk 0 false 0 ([]:Str) [] []) [b1] [])]) rfl uq rfl rfl rfl (by first | rfl | simp only [List.map,aj.aG,aj.bn]) ?_)); refine U 1 Z (AS Z (AO.aH Z kS (fun b8=>?_))); refine B1 hf fun x4 h7 hf=>Rr 2 [0,1] Z Z (CL Z (EO _ h7 ?_)); refine B1 hf fun b3 h9 hf=>U 2 Z (AR.eX 4 41 45 false [2,7,8] b3 Z Z (fun h8=>?_) (fun h8=>?_) ?_)
 · replace h9:=eF h8 h9; refine Is 41 h8 Z (GO Z (AO.bV (i:=0) Z Z Z kT Z Z ?_)); obtain ⟨x5,h10,h9⟩:=aN h9; refine GO Z (AO.call Z _ Z Z agP (EO _ h10 ?_)); obtain rfl:=Option.some.inj h9; exact eU 2 Z (En [45,2,7,8] Z)
 · replace h9:=eD h8 h9; refine Is 41 h8 Z ?_; obtain rfl:=Option.some.inj h9; exact eU 4 Z (En [45,2,7,8] Z)
 refine J 0 Z (C hf Z (fun h11 hf=>?_) fun h11 hf=>?_)
 · replace hf:=(aJ _).trans hf; refine B1 hf fun x6 h12 hf=>W 0 Z (CL Z (iF  h12 ?_)); cases hf; exact N 1 Z (Y Z h)
 obtain ⟨x7,f1,jq,hf⟩:=aY hf; refine Wr 2 [1] Z Z (CL Z (rM _ _ jq (U 3 Z (AS Z (AO.aH Z eY (fun b9=>?_)))))); obtain ⟨x8,g1,kg,hf⟩:=aY hf; refine Rr 4 [0,1] Z Z (CL Z (rM _ _ kg (U 3 Z (AS Z (AO.aH Z eY (fun b11=>?_)))))); refine B1 hf fun b4 h16 hf=>Rr 6 [0] Z Z (AR.eX 4 62 66 true [] b4 Z Z (fun kC=>?_) (fun kC=>?_) ?_)
 · replace h16:=eD kC h16; refine Is 62 kC Z (GO Z (AO.bV (i:=1) Z Z Z bY Z Z (GO Z (AO.bV (i:=0) Z Z Z bY Z Z ?_)))); replace h16:=(aJ _).trans h16; obtain ⟨x9,mQ,h16⟩:=aN h16; refine GO Z (AO.call Z _ Z Z X0 (DZ _ _ mQ ?_)); obtain rfl:=Option.some.inj h16; exact eU 1 Z (En [66] Z)
 · replace h16:=eF kC h16; refine Is 62 kC Z ?_; obtain rfl:=Option.some.inj h16; exact eU 4 Z (En [66] Z)
 replace hf:=(aJ _).trans hf; refine B1 hf fun b5 h19 hf=>U 1 Z (AR.eX 2 67 69 true [] b5 Z Z (fun h18=>?_) (fun h18=>?_) ?_)
 · replace h19:=eD h18 h19; refine Is 67 h18 Z ?_; replace h19:=(aJ _).trans h19; obtain ⟨CO,h20,h19⟩:=aN h19; refine GO Z (AO.call Z _ Z Z Mc (iF  h20 ?_)); obtain rfl:=Option.some.inj h19; exact eU 1 Z (En [69] Z)
 · replace h19:=eF h18 h19; refine Is 67 h18 Z ?_; obtain rfl:=Option.some.inj h19; exact eU 2 Z (En [69] Z)
 cases hf; exact N 1 Z (Y Z h)
end

section
variable [Ay]
theorem NY (s1:Str) (pq:Str) {r0:Bool} (hf:zi s1 pq=some r0) (h:Q (.ret (.bool r0)) τ):PC 9 [.str s1,.str pq] τ Q:=by
 unfold zi at hf; refine BN 52 [.tmp 4] [0,1] Tryz.func9 rfl rfl rfl rfl rfl (W 7 rfl (AS rfl (AO.bq (List.map av.cells [(av.mk ([115]:Str) (ah.mk 3 false 0 s1 [] [])),(av.mk ([98,121]:Str) (ah.mk 3 false 0 pq [] []))]) rfl Cg rfl rfl rfl (by first | rfl | simp only [List.map,av.aG]) ?_))); refine B1 hf fun x1 h1 hf=>U 2 Z (CL Z (Av _ h1 (J 1 Z (C hf Z (fun h2 hf=>?_) fun h2 hf=>?_))))
 · replace hf:=(aJ _).trans hf; refine B1 hf fun x2 h3 hf=>W 0 Z (CL Z (iF  h3 ?_)); cases hf; exact N 1 Z (Y Z h)
 obtain ⟨t1,e1,h4,hf⟩:=aY hf; refine W 1 Z (CL Z (rH _ _ h4 (J 7 Z (C hf Z (fun h5 hf=>?_) fun h5 hf=>?_))))
 ·
  replace hf:=(aJ _).trans hf; refine B1 hf fun b1 h7 hf=>W 3 Z (AR.eX 2 28 30 true [] b1 Z Z (fun h6=>?_) (fun h6=>?_) ?_)
  · replace h7:=eD h6 h7; refine Is 28 h6 Z ?_; replace h7:=(aJ _).trans h7; obtain ⟨x3,h8,h7⟩:=aN h7; refine GO Z (AO.call Z _ Z Z Mc (iF  h8 ?_)); obtain rfl:=Option.some.inj h7; exact eU 1 Z (En [30] Z)
  · replace h7:=eF h6 h7; refine Is 28 h6 Z ?_; obtain rfl:=Option.some.inj h7; exact eU 2 Z (En [30] Z)
  cases hf; exact N 1 Z (Y Z h)
 refine W 3 Z (An 3 33 36 [0,1,7] (t1 == ([116,114,117,101]:Str)) Z Z Z Z (U 1 Z (AR.or 11 37 48 [] (x:=((e1 == 3) && (decide ((bS (1024 * (pq.length:Int)))≤(s1.length:Int))))) Z Z (fun h10=>?_) (fun h10=>?_) ?_)))
 ·
  refine Is 37 h10 Z (U 3 Z (AR.and 7 40 47 [37] (x:=(decide ((bS (1024 * (pq.length:Int)))≤(s1.length:Int)))) Z Z (fun h11=>?_) (fun h11=>?_) ?_))
  · refine Is 40 h11 Z (U 1 Z (GO Z (AO.bJ Z Z Z Z cu Z (U 1 Z (GO Z (AO.bJ Z Z Z Z cu Z ?_)))))); exact eU 3 Z (En [47,37] Z)
  · refine Is 40 h11 Z ?_; exact eU 7 Z (En [47,37] Z)
  exact eU 1 Z (En [48] Z)
 · refine Is 37 h10 Z ?_; exact eU 11 Z (En [48] Z)
 replace hf:=(aJ _).trans hf; refine B1 hf fun b2 jq hf=>U 1 Z (AR.eX 2 49 51 true [] b2 Z Z (fun h12=>?_) (fun h12=>?_) ?_)
 · replace jq:=eD h12 jq; refine Is 49 h12 Z ?_; replace jq:=(aJ _).trans jq; obtain ⟨x4,kg,jq⟩:=aN jq; refine GO Z (AO.call Z _ Z Z Mc (iF  kg ?_)); obtain rfl:=Option.some.inj jq; exact eU 1 Z (En [51] Z)
 · replace jq:=eF h12 jq; refine Is 49 h12 Z ?_; obtain rfl:=Option.some.inj jq; exact eU 2 Z (En [51] Z)
 cases hf; exact N 1 Z (Y Z h)
end


end Go.Proofs.YtdhmchjccpmppaaGreatDoor
