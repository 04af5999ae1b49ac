/- Proved here: each function does what its functional text says (part 2). -/
import Derived.Test.YtpbjbkhfpjckoaaGreatDoorIpWalk1
set_option linter.unusedVariables false
set_option linter.unusedSimpArgs false
set_option linter.unusedSectionVars false
namespace Go.Proofs.YtpbjbkhfpjckoaaGreatDoor
open Go Go.Abs Go.Ft
set_option maxRecDepth 20000
attribute [local irreducible] AO AR AW AC
variable [iG]
variable {τ : List bA} {Q : eT → List bA → Prop}
section
variable [DU]
theorem Nv (s1:Str) {r0:List Str} {r1:Int} (hf:CU s1=some (r0,r1)) (h:Q (.ret (.tuple [sP r0,iP r1])) τ):PC 19 [.str s1] τ Q:=by
 unfold CU at hf; refine AC.none (AC.L_ 32 [.tmp 2,.tmp 3] [0] Tryz.func19 Z Z Z Z Z (AW.sr (cs 2 Z ?_))); refine AR.nil [0] Z (AW.sr (cs 1 Z ?_)); obtain ⟨ps1,cZ,nN,h1,hf⟩:=eD hf; refine AR.step Z Z Z (AO.call Z _ Z Z aa9 (pV _ h1 (cs 7 Z (AR.nil [0,4,6] Z (AW.seq ?_))))); refine AW.sr (cs 2 Z (AR.nil [0,4,6,16] Z (AW.cond Z (fun h2=>?_) (fun h2=>?_))))
 ·
  cases jV h2 hf; refine AW.sr (cs 1 Z (AR.step Z Z Z (AO.fq Z Z (cs 1 Z ?_)))); refine AR.nil [2,3] Z (AW.ret ?_); exact .inl ⟨rfl,_,⟨_,_,rfl,rfl,_,_,rfl,rfl,rfl⟩,[],List.nil_sublist _,h⟩
 replace hf:=jg h2 hf; refine B1 hf fun a1 h3 hf=>?_; refine B1 hf fun x1 h4 hf=>?_; cases hf; refine AW.skip (AW.sr (AR.step Z Z Z (AO.build Z iq Ed Z (AR.step Z Z Z (AO.aN Z iq (fun b7=>?_)))))); refine AR.dx Z Z (AO.eH (i:=0) Z Z Z iY Z Z Z Z Z (AR.nil [4,7] Z (AW.acQ 0 [iP 9,.str ([]:Str),iP 0,.bool false,iP 0,.str ([]:Str),.own (.slice none 0 0) [],.own (.slice none 0 0) [],.val (.slice none 0 0),.own (.slice none 0 0) []] Z (fun w m vs hv=>bC.HY 8 _ vs Z hv) (AW.acU 10 37 ?_)))); refine AW.seq (AW.sr (cs 1 Z (AR.step Z Z Z (AO.call Z _ Z Z aa2 (xX _ ?_))))); refine AR.nil [7,20] Z (AW.block ?_); refine AW.LQ (β:=List ah) (X:=ah) Z aa0 (fun x1=>[.agg (bn x1)]) (fun _=>Z) (by decide) wu (fun l τ=>∃ v,τ=[.buf v l.length 10 37 (List.flatMap ah.cells l),.box b7 [iP 9,.str ([]:Str),iP 0,.bool false,iP 0,.str ([]:Str),.own (.slice none 0 0) [],.own (.slice none 0 0) [],.val v,.own (.slice none 0 0) []]]) (fun _=>none) (s0:=[]) (s1:=a1) ⟨_,Z⟩ Z ?_ ?_ ?_
 ·
  intro l T' hy τ hT; refine wH l T' wu hy ps1 h3 hT fun τ' hT'=>?_; exact ⟨⟨_,Z⟩,hT'⟩
 ·
  rintro l s x1 b s2 _ hh ⟨v0,rfl⟩; unfold wu at hh; obtain ⟨a2,h5,hh⟩:=PN hh; cases hh; obtain ⟨Ic,rfl⟩:=Co h5; refine ⟨Z,(rF.region Z (AR.step Z Z Z (AO.aN Z iq (fun b8=>(AR.dx Z Z (AO.eH (i:=0) Z Z Z iY Z Z Z Z Z ?_))))))⟩; refine AR.nil [7,8] Z (⟨Z,(rF.block (rF.drawn mixed Z ?_))⟩)
  refine AD.VG 0 10 [] [.box b8 (bn x1),.buf v0 s.length 10 37 (List.flatMap ah.cells s),.box b7 [iP 9,.str ([]:Str),iP 0,.bool false,iP 0,.str ([]:Str),.own (.slice none 0 0) [],.own (.slice none 0 0) [],.val v0,.own (.slice none 0 0) []]] (fun S e σ=>∃ v2:Value,e.get 7=pP b7∧e.get 8=pP b8∧(S 0=true→e.get 22=.val (.pointer (some ⟨b7,8,none⟩)))∧(S 1=true→e.get 23=.val v0)∧(S 2=true→e.get 24=.agg (bn x1))∧(S 3=true→e.get 25=iP (s.length:Int))∧(S 4=true→e.get 26=.list [[iP 0,.str ([]:Str),iP 0,.bool false,iP 0,.str ([]:Str),.list (ak.bR []),sP ([]),.list (ah.bR []),sP ([])]])
    ∧(S 5=true→e.get 27=.val v2)∧(S 6=true→e.get 28=.val (.pointer (some ⟨v2.blk,s.length * 10,none⟩)))∧(S 8=true→e.get 29=.val (.pointer (some ⟨b7,8,none⟩)))∧(S 6=true→S 5=true)∧(S 9=true→S 5=true)∧(S 7=true→S 5=true)∧(S 5=true→S 1=true∧S 3=true)
    ∧σ=[.box b8 (bn x1),bif S 5 then .buf v2 (s.length + 1) 10 37 (List.flatMap ah.cells s ++ bif S 7 then (bn x1) else [iP 0,.str ([]:Str),iP 0,.bool false,iP 0,.str ([]:Str),.list (ak.bR []),sP ([]),.list (ah.bR []),sP ([])]) else .buf v0 s.length 10 37 (List.flatMap ah.cells s),.box b7 (bif S 9 then [iP 9,.str ([]:Str),iP 0,.bool false,iP 0,.str ([]:Str),.own (.slice none 0 0) [],.own (.slice none 0 0) [],.val v2,.own (.slice none 0 0) []] else [iP 9,.str ([]:Str),iP 0,.bool false,iP 0,.str ([]:Str),.own (.slice none 0 0) [],.own (.slice none 0 0) [],.val v0,.own (.slice none 0 0) []])]) (by kernel_rfl) Z Z (List.Perm.refl _) ?_ ?_ ?_ ?_
  ·
   refine Ev.nil ?_; exact ⟨.nilIface,Z,Z,(fun h=>by cases h),(fun h=>by cases h),(fun h=>by cases h),(fun h=>by cases h),(fun h=>by cases h),(fun h=>by cases h),(fun h=>by cases h),(fun h=>by cases h),(fun h=>by cases h),(fun h=>by cases h),(fun h=>by cases h),(fun h=>by cases h),Z⟩
  ·
   rintro S S' e σ hS ⟨v2,p7,p8,q0,q1,q2,q3,q4,q5,q6,q8,g6,g9,g7,g5,qs⟩; have z:=fun i h1 h2=>(hS i h1 h2).symm; refine ⟨v2,p7,p8,?_,?_,?_,?_,?_,?_,?_,?_,?_,?_,?_,?_,?_⟩
   ·
    rw [z 0 (by decide) (by decide)]; exact q0
   ·
    rw [z 1 (by decide) (by decide)]; exact q1
   ·
    rw [z 2 (by decide) (by decide)]; exact q2
   ·
    rw [z 3 (by decide) (by decide)]; exact q3
   ·
    rw [z 4 (by decide) (by decide)]; exact q4
   ·
    rw [z 5 (by decide) (by decide)]; exact q5
   ·
    rw [z 6 (by decide) (by decide)]; exact q6
   ·
    rw [z 8 (by decide) (by decide)]; exact q8
   ·
    rw [z 6 (by decide) (by decide),z 5 (by decide) (by decide)]; exact g6
   ·
    rw [z 9 (by decide) (by decide),z 5 (by decide) (by decide)]; exact g9
   ·
    rw [z 7 (by decide) (by decide),z 5 (by decide) (by decide)]; exact g7
   ·
    rw [z 5 (by decide) (by decide),z 1 (by decide) (by decide),z 3 (by decide) (by decide)]; exact g5
   ·
    rw [z 5 (by decide) (by decide),z 7 (by decide) (by decide),z 9 (by decide) (by decide)]; exact qs
  ·
   rintro S e σ i o ⟨v2,p7,p8,q0,q1,q2,q3,q4,q5,q6,q8,g6,g9,g7,g5,rfl⟩ hi1 hi2 Rl hp ho; have hi:i=0∨i=1∨i=2∨i=3∨i=4∨i=5∨i=6∨i=7∨i=8∨i=9:=by omega
   rcases hi with rfl | rfl | rfl | rfl | rfl | rfl | rfl | rfl | rfl | rfl
   ·
    cases ho; refine ⟨Z,(fun t ht=>by cases ht; decide),AO.less (Less.add p7 Less.nil) (AO.cK Z Z VE ?_)⟩; exact ⟨v2,p7,p8,(fun _=>Z),q1,q2,q3,q4,q5,q6,q8,g6,g9,g7,g5,Z⟩
   ·
    cases ho; have s0:=hp 0 (any_beq.1 Z) (by decide); have n5:S 5=false:=Bool.eq_false_iff.2 fun h=>by rw [(g5 h).1] at Rl; cases Rl
    have n9:S 9=false:=Bool.eq_false_iff.2 fun h=>by rw [g9 h] at n5; cases n5
    rw [n9,n5]; refine ⟨Z,(fun t ht=>by cases ht; decide),AO.less (Less.add (q0 s0) Less.nil) ?_⟩; refine AO.dW (i:=2) Z Z Z Vl Z Z ?_; exact ⟨v2,p7,p8,q0,(fun _=>Z),q2,q3,q4,q5,q6,q8,g6,g9,g7,(fun h=>by rw [show S 5=true from h] at n5; cases n5),by simp [n9,n5]⟩
   ·
    cases ho; refine ⟨Z,(fun t ht=>by cases ht; decide),AO.less (Less.add p8 Less.nil) (AO.dW (i:=0) Z Z Z iY Z Z ?_)⟩; exact ⟨v2,p7,p8,q0,q1,(fun _=>Z),q3,q4,q5,q6,q8,g6,g9,g7,g5,Z⟩
   ·
    cases ho; have s1:=hp 1 (any_beq.1 Z) (by decide); have n5:S 5=false:=Bool.eq_false_iff.2 fun h=>by rw [(g5 h).2] at Rl; cases Rl
    rw [n5]; refine ⟨Z,(fun t ht=>by cases ht; decide),AO.less (Less.add (q1 s1) Less.nil) ?_⟩; refine AO.H_ (i:=1) Z Z Z Z iI Z Z ?_; exact ⟨v2,p7,p8,q0,q1,q2,(fun _=>Z),q4,q5,q6,q8,g6,g9,g7,(fun h=>by rw [show S 5=true from h] at n5; cases n5),by simp [n5]⟩
   ·
    cases ho; refine ⟨Z,(fun t ht=>by cases ht; decide),AO.less Less.nil (AO.dw [[iP 0,.str ([]:Str),iP 0,.bool false,iP 0,.str ([]:Str),.list (ak.bR []),sP ([]),.list (ah.bR []),sP ([])]] Z rQ Z Z Z Z ?_)⟩; exact ⟨v2,p7,p8,q0,q1,q2,q3,(fun _=>Z),q5,q6,q8,g6,g9,g7,g5,Z⟩
   ·
    cases ho; have s1:=hp 1 (any_beq.1 Z) (by decide); have s3:=hp 3 (any_beq.1 Z) (by decide); have s4:=hp 4 (any_beq.1 Z) (by decide); have n6:S 6=false:=Bool.eq_false_iff.2 fun h=>by rw [g6 h] at Rl; cases Rl
    have n7:S 7=false:=Bool.eq_false_iff.2 fun h=>by rw [g7 h] at Rl; cases Rl
    have n9:S 9=false:=Bool.eq_false_iff.2 fun h=>by rw [g9 h] at Rl; cases Rl
    rw [Rl,n9]; refine ⟨Z,(fun t ht=>by cases ht; decide),AO.less (Less.add (q1 s1) (Less.add (q4 s4) Less.nil)) ?_⟩; refine AO.NM (i:=1) (l2:=[[iP 0,.str ([]:Str),iP 0,.bool false,iP 0,.str ([]:Str),.list (ak.bR []),sP ([]),.list (ah.bR []),sP ([])]]) Z Z Z Z Z Z Z rQ iI (by intro y hy; cases List.mem_singleton.1 hy; rfl) (by intro y hy; cases List.mem_singleton.1 hy; rfl) (by simp only [List.length_singleton] at Ic ⊢; unfold Gm at Ic; unfold maxLen; omega) (by simp only [List.length_singleton] at Ic ⊢; unfold Gm at Ic; omega) (fun v3 s2 hs2=>?_); cases hs2; exact ⟨v3,p7,p8,q0,q1,q2,q3,q4,(fun _=>Z),(fun h=>by rw [show S 6=true from h] at n6; cases n6),q8,(fun h=>by rw [show S 6=true from h] at n6; cases n6),(fun h=>by rw [show S 9=true from h] at n9; cases n9),(fun h=>by rw [show S 7=true from h] at n7; cases n7),(fun _=>⟨s1,s3⟩),by simp [n7,n9]⟩
   ·
    cases ho; have s3:=hp 3 (any_beq.1 Z) (by decide); have s5:=hp 5 (any_beq.1 Z) (by decide); rw [s5]; refine ⟨Z,(fun t ht=>by cases ht; decide),AO.less (Less.add (q5 s5) (Less.add (q3 s3) Less.nil)) ?_⟩; refine AO.xg (i:=1) (sz:=10) Z Z Z Z iI (by omega) (by simp) ?_; exact ⟨v2,p7,p8,q0,q1,q2,q3,q4,q5,(fun _=>by simp [Ku,Env.get]),q8,(fun _=>s5),g9,g7,g5,by simp [s5]⟩
   ·
    cases ho; have s2:=hp 2 (any_beq.1 Z) (by decide); have s6:=hp 6 (any_beq.1 Z) (by decide); have s5:=g6 s6; rw [s5,Rl]; refine ⟨Z,(fun t ht=>by cases ht),AO.less (Less.add (q6 s6) (Less.add (q2 s2) Less.nil)) ?_⟩; have YV:(List.flatMap ah.cells s).length=s.length * 10:=Ii ah.fu s; refine AO.Lv (i:=1) (new:=(bn x1)) (cs':=List.flatMap ah.cells s ++ (bn x1)) Z Z Z iY Z Z Z (by simp) (by simp [YV]) ?_ Z ?_
    ·
     unfold putCells; rw [List.take_append_of_le_length (by omega),List.take_of_length_le (by omega),List.drop_of_length_le (by simp [YV]),List.append_nil]
    exact ⟨v2,p7,p8,q0,q1,q2,q3,q4,q5,q6,q8,g6,g9,(fun _=>s5),g5,by simp [s5]⟩
   ·
    cases ho; refine ⟨Z,(fun t ht=>by cases ht; decide),AO.less (Less.add p7 Less.nil) (AO.cK Z Z VE ?_)⟩; exact ⟨v2,p7,p8,q0,q1,q2,q3,q4,q5,q6,(fun _=>Z),g6,g9,g7,g5,Z⟩
   ·
    cases ho; have s8:=hp 8 (any_beq.1 Z) (by decide); have s5:=hp 5 (any_beq.1 Z) (by decide); rw [s5,Rl]; refine ⟨Z,(fun t ht=>by cases ht),AO.less (Less.add (q8 s8) (Less.add (q5 s5) Less.nil)) ?_⟩; simp only [cond_true,cond_false]; refine AO.VR 1 Z fun hv1 hv2=>(AO.eH (i:=2) Z Z Z Vl hv1 hv2 Z Z Z ?_); exact ⟨v2,p7,p8,q0,q1,q2,q3,q4,q5,q6,q8,g6,(fun _=>s5),g7,g5,by simp [s5]⟩
  rintro S e σ hS ⟨v2,p7,p8,q0,q1,q2,q3,q4,q5,q6,q8,g6,g9,g7,g5,rfl⟩; rw [hS 5 (by decide) (by decide),hS 7 (by decide) (by decide),hS 9 (by decide) (by decide)]; refine AR.nil [] Z (⟨Z,⟨_,.cons _ (List.Sublist.refl _),v2,?_⟩,Z,Z⟩); simp [ah.aP]
 ·
  rintro D _ ⟨v0,rfl⟩; show AW _ _ _ _ _ _ _; refine AW.aas 0 1 (ah.bR a1) Z Z (q:=8) Z (by rw [ah.aO,List.flatMap_def]) (by rw [ah.aO]; intro x hx; obtain ⟨y,_,rfl⟩:=List.mem_map.1 hx; exact ah.fu y) (by rw [ah.aO,List.length_map]) ?_; refine AW.sr (AR.step Z Z Z (AO.dW (i:=1) Z Z Z iY Z Z (AR.step Z Z Z (AO.call Z _ Z Z adR (OW _ h4 (cs 2 Z ?_)))))); refine AR.nil [2,3] Z (AW.ret ?_); exact .inr ⟨D,[_,_],Z,Z,_,⟨_,_,Z,Z,_,_,Z,Z,Z⟩,[],List.nil_sublist _,h⟩
end
section
variable [DU]
theorem QX (v1:ak) {r0:Str} (hf:Gv v1=some r0) (h:Q (.ret (.str r0)) τ):PC 110 [.agg (bK v1)] τ Q:=by
 unfold Gv at hf; refine BN 8 [.tmp 2] [0] Tryz.func110 Z Z Z Z Z ?_; refine B1 hf fun x1 h1 hf=>W 3 Z (CL Z (qW _ h1 (J 1 Z (C hf Z (fun h2 hf=>?_) fun h2 hf=>?_))))
 · cases hf; exact M 1 Z (Y Z h)
 refine BR hf fun x2 h3 hf=>?_; refine W 1 Z (CL Z (Dy _ h3 ?_)); cases hf; exact N 1 Z (Y Z h)
end
theorem Nl (e1:ah) {r0:Int} (hf:CJ e1=some r0) (h:Q (.ret (iP r0)) τ):PC 185 [.agg (bn e1)] τ Q:=by
 unfold CJ at hf; refine BN 33 [.tmp 2] [0] Tryz.func185 Z Z Z Z Z (V 6 Z (C hf Z (fun h1 hf=>?_) fun h1 hf=>?_))
 · cases hf; exact M 1 Z (Y Z h)
 refine V 4 Z (C hf Z (fun h2 hf=>?_) fun h2 hf=>?_)
 · refine BR hf fun x1 h3 hf=>?_; refine W 2 Z (CL Z (rC _ h3 ?_)); cases hf; exact N 1 Z (Y Z h)
 refine V 4 Z (C hf Z (fun h4 hf=>?_) fun h4 hf=>?_)
 ·
  refine V 0 Z (AW.cond Z (fun h5=>?_) (fun h5=>?_))
  · cases hf; exact M 1 Z (Y Z h)
  cases h4.symm.trans h5
 refine W 4 Z (An 5 21 26 [1,14] (e1.value.kind == 2) Z Z Z Z (U 1 Z (An 5 27 32 [14] (decide (e1.value.kF < 0)) Z Z Z Z (J 1 Z (C hf Z (fun h8 hf=>?_) fun h8 hf=>?_)))))
 · cases hf; exact M 1 Z (Y Z h)
 cases hf; exact M 1 Z (Y Z h)
section
variable [DU]
abbrev yA (iO:ah→Option Str):Prop:=∀ (lg:ah) {aV:Str},iO lg=some aV→∀ {τ:List bA} {Q:eT→List bA→Prop} (h:Q (.ret (.str aV)) τ),PC 71 [.agg (bn lg)] τ Q
abbrev Dj (fE:ah→Int→Option Str):Prop:=∀ (lg:ah) (mG:Int) {aV:Str},fE lg mG=some aV→∀ {τ:List bA} {Q:eT→List bA→Prop} (h:Q (.ret (.str aV)) τ),PC 111 [.agg (bn lg),iP mG] τ Q
theorem Ko (iO) (wC:yA iO) (fE) (jd:Dj fE) (e1:ah) {r0:Str} (hf:yh iO fE e1=some r0) (h:Q (.ret (.str r0)) τ):PC 71 [.agg (bn e1)] τ Q:=by
 unfold yh at hf; refine BN 121 [.tmp 2] [0] Tryz.func71 Z Z Z Z Z (V 6 Z (C hf Z (fun h1 hf=>?_) fun h1 hf=>?_))
 · refine BR hf fun x1 h2 hf=>?_; refine W 2 Z (CL Z (QX _ h2 ?_)); cases hf; exact N 1 Z (Y Z h)
 refine V 2 Z (C hf Z (fun h3 hf=>?_) fun h3 hf=>?_)
 · cases hf; exact M 3 Z (Y Z h)
 refine V 2 Z (C hf Z (fun h4 hf=>?_) fun h4 hf=>?_)
 ·
  refine V 0 Z (AW.draw 10 mixed (by kernel_rfl) Z ?_); refine Ev.cs bL 2 Z ?_; refine B1 hf fun e2 h5 hf=>Ev.cons Z Z Z (AO.bF h5 Z Z (ah.aO _) Z iI (ah.aP _) Z zg) (Ev.cs bL 1 Z ?_); refine B1 hf fun x2 h6 hf=>Ev.cons Z Z Z (AO.call Z _ Z Z zL (jd _ _ h6 zg)) ?_; refine B1 hf fun x3 h7 hf=>Ev.cons Z Z Z (AO.pY h7 Z Z Z zg) (Ev.cs bL 2 Z ?_); refine BR hf fun x4 h8 hf=>?_; refine Ev.cons Z Z Z (AO.pY h8 Z Z Z zg) (Ev.cs bL 1 Z (Ev.nil ?_)); show AR _ _ _ _ _ _ _ _; cases hf; exact N 0 Z (Y Z h)
 refine V 2 Z (C hf Z (fun h9 hf=>?_) fun h9 hf=>?_)
 ·
  refine V 0 Z (AW.draw 14 mixed (by kernel_rfl) Z ?_); refine Ev.cs bL 2 Z ?_; refine B1 hf fun e3 h10 hf=>Ev.cons Z Z Z (AO.bF h10 Z Z (ah.aO _) Z iI (ah.aP _) Z zg) (Ev.cs bL 1 Z ?_); refine B1 hf fun x5 h11 hf=>Ev.cons Z Z Z (AO.call Z _ Z Z zL (jd _ _ h11 zg)) ?_; refine B1 hf fun x6 h12 hf=>Ev.cons Z Z Z (AO.pY h12 Z Z Z zg) (Ev.cs bL 2 Z ?_); refine B1 hf fun e4 kL hf=>Ev.cons Z Z Z (AO.bF kL Z Z (ah.aO _) Z iI (ah.aP _) Z zg) (Ev.cs bL 1 Z ?_); refine B1 hf fun x7 lD hf=>Ev.cons Z Z Z (AO.call Z _ Z Z zL (jd _ _ lD zg)) ?_; refine B1 hf fun x8 nT hf=>Ev.cons Z Z Z (AO.pY nT Z Z Z zg) ?_; refine BR hf fun x9 h16 hf=>?_; refine Ev.cons Z Z Z (AO.pY h16 Z Z Z zg) (Ev.cs bL 1 Z (Ev.nil ?_)); show AR _ _ _ _ _ _ _ _; cases hf; exact N 0 Z (Y Z h)
 refine V 2 Z (C hf Z (fun wP hf=>?_) fun wP hf=>?_)
 · exact bI hf
 refine V 2 Z (C hf Z (fun h18 hf=>?_) fun h18 hf=>?_)
 ·
  refine V 0 Z (AW.draw 9 mixed (by kernel_rfl) Z ?_); refine Ev.cs bL 4 Z ?_; refine B1 hf fun e5 h19 hf=>Ev.cons Z Z Z (AO.bF h19 Z Z (ah.aO _) Z iI (ah.aP _) Z zg) (Ev.cs bL 1 Z ?_); refine B1 hf fun JK h20 hf=>Ev.cons Z Z Z (AO.call Z _ Z Z zL (jd _ _ h20 zg)) ?_; refine BR hf fun Rs h21 hf=>?_; refine Ev.cons Z Z Z (AO.pY h21 Z Z Z zg) (Ev.cs bL 1 Z (Ev.nil ?_)); show AR _ _ _ _ _ _ _ _; cases hf; exact N 0 Z (Y Z h)
 refine V 2 Z (C hf Z (fun h22 hf=>?_) fun h22 hf=>?_)
 ·
  refine B1 hf fun n1 h23 hf=>W 2 Z (CL Z (rC _ h23 (J 5 Z (C hf Z (fun Du hf=>?_) fun Du hf=>?_))))
  ·
   refine V 3 Z (AW.draw 20 mixed (by kernel_rfl) Z ?_); refine Ev.cs bL 2 Z ?_; refine B1 hf fun e6 IB hf=>Ev.cons Z Z Z (AO.bF IB Z Z (ah.aO _) Z iI (ah.aP _) Z zg) (Ev.cs bL 2 Z ?_); refine B1 hf fun Xz Qw hf=>Ev.cons Z Z Z (AO.call Z _ Z Z zL (jd _ _ Qw zg)) ?_; refine B1 hf fun ZH h27 hf=>Ev.cons Z Z Z (AO.pY h27 Z Z Z zg) (Ev.cs bL 2 Z ?_); refine B1 hf fun x14 Ol hf=>Ev.cons Z Z Z (AO.pY Ol Z Z Z zg) ?_; refine B1 hf fun x15 W9 hf=>Ev.cons Z Z Z (AO.pY W9 Z Z Z zg) (Ev.cs bL 2 Z ?_); refine B1 hf fun e7 WZ hf=>Ev.cons Z Z Z (AO.bF WZ Z Z (ah.aO _) Z iI (ah.aP _) Z zg) (Ev.cs bL 3 Z ?_); refine B1 hf fun x16 h31 hf=>Ev.cons Z Z Z (AO.call Z _ Z Z zL (jd _ _ h31 zg)) ?_; refine BR hf fun x17 h32 hf=>?_; refine Ev.cons Z Z Z (AO.pY h32 Z Z Z zg) (Ev.cs bL 1 Z (Ev.nil ?_)); show AR _ _ _ _ _ _ _ _; cases hf; exact N 0 Z (Y Z h)
  refine V 0 Z (AW.draw 20 mixed (by kernel_rfl) Z ?_); refine Ev.cs bL 2 Z ?_; refine B1 hf fun e8 Qv hf=>Ev.cons Z Z Z (AO.bF Qv Z Z (ah.aO _) Z iI (ah.aP _) Z zg) (Ev.cs bL 2 Z ?_); refine B1 hf fun x18 F3 hf=>Ev.cons Z Z Z (AO.call Z _ Z Z zL (jd _ _ F3 zg)) ?_; refine B1 hf fun x19 Pp hf=>Ev.cons Z Z Z (AO.pY Pp Z Z Z zg) (Ev.cs bL 2 Z ?_); refine B1 hf fun x20 WY hf=>Ev.cons Z Z Z (AO.pY WY Z Z Z zg) ?_; refine B1 hf fun x21 h37 hf=>Ev.cons Z Z Z (AO.pY h37 Z Z Z zg) (Ev.cs bL 2 Z ?_); refine B1 hf fun e9 XE hf=>Ev.cons Z Z Z (AO.bF XE Z Z (ah.aO _) Z iI (ah.aP _) Z zg) (Ev.cs bL 3 Z ?_); refine B1 hf fun x22 NS hf=>Ev.cons Z Z Z (AO.call Z _ Z Z zL (jd _ _ NS zg)) ?_; refine BR hf fun x23 YX hf=>?_; refine Ev.cons Z Z Z (AO.pY YX Z Z Z zg) (Ev.cs bL 1 Z (Ev.nil ?_)); show AR _ _ _ _ _ _ _ _; cases hf; exact N 0 Z (Y Z h)
 refine V 2 Z (C hf Z (fun ZK hf=>?_) fun ZK hf=>?_)
 ·
  refine V 0 Z (AW.draw 20 mixed (by kernel_rfl) Z ?_); refine Ev.cs bL 2 Z ?_; refine B1 hf fun e10 UK hf=>Ev.cons Z Z Z (AO.bF UK Z Z (ah.aO _) Z iI (ah.aP _) Z zg) (Ev.cs bL 1 Z ?_); refine B1 hf fun x24 h43 hf=>Ev.cons Z Z Z (AO.call Z _ Z Z zL (jd _ _ h43 zg)) ?_; refine B1 hf fun x25 YW hf=>Ev.cons Z Z Z (AO.pY YW Z Z Z zg) (Ev.cs bL 2 Z ?_); refine B1 hf fun e11 h45 hf=>Ev.cons Z Z Z (AO.bF h45 Z Z (ah.aO _) Z iI (ah.aP _) Z zg) (Ev.cs bL 1 Z ?_); refine B1 hf fun x26 h46 hf=>Ev.cons Z Z Z (AO.call Z _ Z Z zL (jd _ _ h46 zg)) ?_; refine B1 hf fun x27 h47 hf=>Ev.cons Z Z Z (AO.pY h47 Z Z Z zg) ?_; refine B1 hf fun x28 h48 hf=>Ev.cons Z Z Z (AO.pY h48 Z Z Z zg) (Ev.cs bL 2 Z ?_); refine B1 hf fun e12 h49 hf=>Ev.cons Z Z Z (AO.bF h49 Z Z (ah.aO _) Z iI (ah.aP _) Z zg) (Ev.cs bL 1 Z ?_); refine B1 hf fun x29 h50 hf=>Ev.cons Z Z Z (AO.call Z _ Z Z zL (jd _ _ h50 zg)) ?_; refine BR hf fun x30 h51 hf=>?_; refine Ev.cons Z Z Z (AO.pY h51 Z Z Z zg) (Ev.cs bL 1 Z (Ev.nil ?_)); show AR _ _ _ _ _ _ _ _; cases hf; exact N 0 Z (Y Z h)
 refine V 2 Z (C hf Z (fun h52 hf=>?_) fun h52 hf=>?_)
 · exact bI hf
 exact bI hf
theorem PY (iO) (wC:yA iO) (fE) (jd:Dj fE) (e1:ah) (FC:Int) {r0:Str} (hf:CK iO fE e1 FC=some r0) (h:Q (.ret (.str r0)) τ):PC 111 [.agg (bn e1),iP FC] τ Q:=by
 unfold CK at hf; refine BN 15 [.tmp 4] [0,1] Tryz.func111 Z Z Z Z Z ?_; refine B1 hf fun x1 h1 hf=>W 3 Z (CL Z (Nl _ h1 (J 2 Z (C hf Z (fun h2 hf=>?_) fun h2 hf=>?_))))
 · refine B1 hf fun x2 h3 hf=>W 1 Z (CL Z (wC _ h3 ?_)); refine B1 hf fun x3 h4 hf=>AS Z (AO.pY h4 Z Z Z ?_); refine BR hf fun x4 h5 hf=>?_; refine AS Z (AO.pY h5 Z Z Z ?_); cases hf; exact N 1 Z (Y Z h)
 refine BR hf fun x5 h6 hf=>?_; refine W 1 Z (CL Z (wC _ h6 ?_)); cases hf; exact N 1 Z (Y Z h)
theorem Dr :∀ k:Nat,(yA (mH k))∧(Dj (qj k)):=by
 intro k
 induction k with
 | zero=>exact ⟨fun _ _ hz=>by first | cases hz | (unfold mH at hz; cases hz),fun _ _ _ hz=>by first | cases hz | (unfold qj at hz; cases hz)⟩
 | succ k ih=>exact ⟨fun lg aV hz τ Q hq=>Ko (mH k) ih.1 (qj k) ih.2 lg hz hq,fun lg mG aV hz τ Q hq=>PY (mH k) ih.1 (qj k) ih.2 lg mG hz hq⟩
theorem KH (lg:ah) {aV:Str} (hf:F9 lg=some aV) (h:Q (.ret (.str aV)) τ):PC 71 [.agg (bn lg)] τ Q:=
 ((Dr BIG).1) lg hf h
theorem aaF (lg:ah) (mG:Int) {aV:Str} (hf:Us lg mG=some aV) (h:Q (.ret (.str aV)) τ):PC 111 [.agg (bn lg),iP mG] τ Q:=
 ((Dr BIG).2) lg mG hf h
end
section
variable [DU]
theorem OM (e1:ah) {r0:Str} (hf:Eu e1=some r0) (h:Q (.ret (.str r0)) τ):PC 37 [.agg (bn e1)] τ Q:=by
 unfold Eu at hf; refine BN 8 [.tmp 2] [0] Tryz.func37 Z Z Z Z Z ?_; refine B1 hf fun x1 h1 hf=>W 3 Z (CL Z (pU _ h1 (J 1 Z (C hf Z (fun h2 hf=>?_) fun h2 hf=>?_))))
 · cases hf; exact M 1 Z (Y Z h)
 refine BR hf fun x2 h3 hf=>?_; refine W 1 Z (CL Z (KH _ h3 ?_)); cases hf; exact N 1 Z (Y Z h)
end
section
variable [DU]
def Hg :Go.Shelf.Ren:=⟨fun | 155=>38 | 154=>72 | 138=>114 | 165=>115 | 143=>116 | 166=>36 | 197=>117 | 169=>39 | 195=>188 | 218=>189 | 240=>60 | 241=>190 | 219=>191 | 260=>192 | 276=>96 | 277=>256 | 217=>257 | 225=>258 | 224=>259 | 267=>260 | 266=>321 | 314=>322 | n=>n,fun | 9=>9 | 3=>3 | 4=>4 | 72=>72 | 0=>0 | 76=>86 | 105=>154 | 21=>21 | 5=>5 | 70=>70 | 20=>20 | 37=>68 | 75=>77 | 127=>124 | 164=>138 | 46=>218 | 119=>245 | 139=>248 | 138=>247 | 146=>279 | 51=>269 | 80=>69 | n=>n,fun | 1=>0 | 3=>1 | 4=>2 | n=>n⟩
theorem Yb :Go.Proofs.Lays.n155 Tryz.prog Hg:={
 mixed:=by kernel_rfl
 f138:=Tryz.func114.trans (congrArg some (by kernel_rfl))
 f143:=Tryz.func116.trans (congrArg some (by kernel_rfl))
 f154:=Tryz.func72.trans (congrArg some (by kernel_rfl))
 f155:=Tryz.func38.trans (congrArg some (by kernel_rfl))
 f165:=Tryz.func115.trans (congrArg some (by kernel_rfl))
 f166:=Tryz.func36.trans (congrArg some (by kernel_rfl))
 f169:=Tryz.func39.trans (congrArg some (by kernel_rfl))
 f195:=Tryz.func188.trans (congrArg some (by kernel_rfl))
 f197:=Tryz.func117.trans (congrArg some (by kernel_rfl))
 f217:=Tryz.func257.trans (congrArg some (by kernel_rfl))
 f218:=Tryz.func189.trans (congrArg some (by kernel_rfl))
 f219:=Tryz.func191.trans (congrArg some (by kernel_rfl))
 f224:=Tryz.func259.trans (congrArg some (by kernel_rfl))
 f225:=Tryz.func258.trans (congrArg some (by kernel_rfl))
 f240:=Tryz.func60.trans (congrArg some (by kernel_rfl))
 f241:=Tryz.func190.trans (congrArg some (by kernel_rfl))
 f260:=Tryz.func192.trans (congrArg some (by kernel_rfl))
 f266:=Tryz.func321.trans (congrArg some (by kernel_rfl))
 f267:=Tryz.func260.trans (congrArg some (by kernel_rfl))
 f276:=Tryz.func96.trans (congrArg some (by kernel_rfl))
 f277:=Tryz.func256.trans (congrArg some (by kernel_rfl))
 f314:=Tryz.func322.trans (congrArg some (by kernel_rfl))
 t0:=Tryz.underlying0
 a0:=Tryz.isAgg0
 z0:=Tryz.sizeOf0
 v0:=Tryz.zeroValue0
 t3:=Tryz.underlying3
 a3:=Tryz.isAgg3
 z3:=Tryz.sizeOf3
 v3:=Tryz.zeroValue3
 t4:=Tryz.underlying4
 a4:=Tryz.isAgg4
 z4:=Tryz.sizeOf4
 v4:=Tryz.zeroValue4
 t5:=Tryz.underlying5
 a5:=Tryz.isAgg5
 z5:=Tryz.sizeOf5
 v5:=Tryz.zeroValue5
 t9:=Tryz.underlying9
 a9:=Tryz.isAgg9
 z9:=Tryz.sizeOf9
 v9:=Tryz.zeroValue9
 t20:=Tryz.underlying20
 a20:=Tryz.isAgg20
 z20:=Tryz.sizeOf20
 v20:=Tryz.zeroValue20
 t21:=Tryz.underlying21
 a21:=Tryz.isAgg21
 z21:=Tryz.sizeOf21
 v21:=Tryz.zeroValue21
 t37:=Tryz.underlying68
 a37:=Tryz.isAgg68
 z37:=Tryz.sizeOf68
 v37:=Tryz.zeroValue68
 t46:=Tryz.underlying218
 a46:=Tryz.isAgg218
 z46:=Tryz.sizeOf218
 v46:=Tryz.zeroValue218
 t51:=Tryz.underlying269
 a51:=Tryz.isAgg269
 z51:=Tryz.sizeOf269
 v51:=Tryz.zeroValue269
 t70:=Tryz.underlying70
 a70:=Tryz.isAgg70
 z70:=Tryz.sizeOf70
 v70:=Tryz.zeroValue70
 t72:=Tryz.underlying72
 a72:=Tryz.isAgg72
 z72:=Tryz.sizeOf72
 v72:=Tryz.zeroValue72
 t75:=Tryz.underlying77
 a75:=Tryz.isAgg77
 z75:=Tryz.sizeOf77
 v75:=Tryz.zeroValue77
 t76:=Tryz.underlying86
 a76:=Tryz.isAgg86
 z76:=Tryz.sizeOf86
 v76:=Tryz.zeroValue86
 t105:=Tryz.underlying154
 a105:=Tryz.isAgg154
 z105:=Tryz.sizeOf154
 v105:=Tryz.zeroValue154
 t119:=Tryz.underlying245
 a119:=Tryz.isAgg245
 z119:=Tryz.sizeOf245
 t127:=Tryz.underlying124
 a127:=Tryz.isAgg124
 z127:=Tryz.sizeOf124
 v127:=Tryz.zeroValue124
 t138:=Tryz.underlying247
 a138:=Tryz.isAgg247
 z138:=Tryz.sizeOf247
 v138:=Tryz.zeroValue247
 t139:=Tryz.underlying248
 a139:=Tryz.isAgg248
 z139:=Tryz.sizeOf248
 v139:=Tryz.zeroValue248
 t146:=Tryz.underlying279
 a146:=Tryz.isAgg279
 z146:=Tryz.sizeOf279
 v146:=Tryz.zeroValue279
 t164:=Tryz.underlying138
 a164:=Tryz.isAgg138
 z164:=Tryz.sizeOf138
 v164:=Tryz.zeroValue138
 g1:=by kernel_rfl
 g3:=by kernel_rfl
 g4:=by kernel_rfl}
theorem Ya :Go.Proofs.Builder.Extra Tryz.prog Hg:={
 sizeBuilder:=by kernel_rfl
 liesBuilder:=by kernel_rfl
 t5:=Tryz.underlying5
 a5:=fun w=>by kernel_rfl
 z5:=fun w=>by kernel_rfl
 v5:=fun w=>by kernel_rfl
 infoByte:=by kernel_rfl
 cellsByte:=by kernel_rfl
 sizeByte:=by kernel_rfl
 neB5:=by decide}
theorem EW (s1:Str) (aam:Str) (new1:Str) {r0:Str} (hf:strings_ReplaceAll s1 aam new1=some r0) (h:Q (.ret (.str r0)) τ):PC 38 [.str s1,.str aam,.str new1] τ Q:=by
 unfold strings_ReplaceAll at hf; split at hf
 case isFalse=>cases hf
 rename_i hg; obtain ⟨hg,rfl,rfl⟩:=hg; rw [←LH (by decide)] at hf; cases hf; refine AC.none ?_; exact AC.replaceAll DU.hD Yb Ya hg (by decide) DU.max (by rw [Lib.count_one]; have:=List.count_le_length (a:=(36:UInt8)) (l:=s1); simp only [List.length_cons,List.length_nil]; omega) h
end
section
variable [DU]
theorem OT (ps1:List aM) {r0:Str} (hf:EF ps1=some r0) (h:Q (.ret (.str r0)) τ):PC 15 [.list (List.map aM.cells ps1)] τ Q:=by
 unfold EF at hf; refine BN 26 [.tmp 2] [0] Tryz.func15 Z Z Z Z Z (W 1 Z (AS Z (AO.JI (eu:=5) Z XI Z (fun b3=>(U 1 Z (AS Z (AO.aU (l:=ps1) Z Z Z Z nM Z Z (J 1 Z (LK3 (fun x1 b1 v1=>[(3,pP b3),(6,.list (List.map aM.cells ps1)),(7,iP (ps1.length:Int)),(8,iP x1)]) (fun x1 b1 v1=>[.Ir b3 v1 72 5 b1]) (fun dA x1 b1 v1=>sj ps1 dA x1 b1=some r0) BIG 0 [] (.slice none 0 0) Z Z hf (fun _ _ _ hz=>bI hz) ?_))))))))); intro dA x1 b1 v1 hf; rw [sj] at hf; refine V 1 Z (C hf Z (fun h1 hf=>?_) fun h1 hf=>?_)
 ·
  refine B1 hf fun e1 h2 hf=>W 0 Z (AS Z (AO.bF h2 Z Z Z Z nM (aM.aP _) Z (U 1 Z (AS Z (AO.aN Z KZ (fun b5=>(Rw 3 [0,0] Z Z (C hf Z (fun h3 hf=>?_) fun h3 hf=>?_))))))))
  · refine B1 hf fun x2 h4 hf=>Wr 2 [0] Z Z (CL Z (OM _ h4 ?_)); refine B1 hf fun x3 h5 hf=>AS Z (AO.pY h5 Z Z Z ?_); refine B1 hf fun x4 h6 hf=>AS Z (AO.pY h6 Z Z Z ?_); refine B1 hf fun b2 h7 hf=>CL Z (AC.one 1 Z (wK h7 (fun v2=>⟨_,Z,(dP 2 Z (AR.drop1 ?_))⟩))); exact N 0 Z ⟨(bV (x1 + 1)),b2,v2,Z,Z,Z,hf⟩
  refine B1 hf fun x5 h8 hf=>Wr 2 [0] Z Z (CL Z (EW _ _ _ h8 ?_)); refine B1 hf fun b3 h9 hf=>CL Z (AC.one 1 Z (wK h9 (fun v3=>⟨_,Z,(dP 2 Z (AR.drop1 ?_))⟩))); exact N 0 Z ⟨(bV (x1 + 1)),b3,v3,Z,Z,Z,hf⟩
 refine W 0 Z (CL Z (AC.Qq 0 Z (Dg ?_))); cases hf; exact N 1 Z (Y Z h)
end
theorem Oy (jU:Int) {r0:Str} (hf:u7 jU=some r0) (h:Q (.ret (.str r0)) τ):PC 143 [iP jU] τ Q:=by
 unfold u7 at hf; refine BN 14 [.tmp 2] [0] Tryz.func143 Z Z Z Z Z (W 1 Z (AS Z (AO.Xt Z XJ Zk Z (AS Z (AO.aN Z XJ (fun b3=>(Rr 4 [0] Z Z (On 3 7 10 [0,3] (decide (8≤jU)) Z Z Z Z ?_)))))))); refine J 0 Z (C hf Z (fun h2 hf=>?_) fun h2 hf=>?_)
 · cases hf; exact M 1 Z (Y Z h)
 refine BR hf fun e1 h3 hf=>?_; refine W 1 Z (AS Z (AO.MB h3 Z Zk Z Z Z (AS Z (AO.WQ (i:=0) (fun z:Str=>.str z) h3 Z Z Z Uk Z ?_)))); cases hf; exact N 1 Z (Y Z h)
theorem qN (jU:Int) {r0:Bool} (hf:kJ jU=some r0) (h:Q (.ret (.bool r0)) τ):PC 144 [iP jU] τ Q:=by
 unfold kJ at hf; refine BN 9 [.tmp 2] [0] Tryz.func144 Z Z Z Z Z (W 4 Z (On 3 5 8 [] (jU == 6) Z Z Z Z ?_)); cases hf; exact N 1 Z (Y Z h)
theorem zV (t1:aG) {r0:Int} (hf:mO t1=some r0) (h:Q (.ret (iP r0)) τ):PC 85 [.agg (eO t1)] τ Q:=by
 unfold mO at hf; refine BN 43 [.tmp 2] [0] Tryz.func85 Z Z Z Z Z (W 0 Z (AS Z (AO.VT Z Z (fun b1=>(J 2 Z (Rk (fun cB t2=>[(1,pP b1),(3,iP cB)]) (fun cB t2=>[.box b1 (eO t2)]) (fun dA cB t2=>kg dA cB t2=some r0) BIG 1 t1 Z Z hf (fun _ _ hz=>bI hz) ?_)))))); intro dA cB t2 hf; rw [kg] at hf; refine V 2 Z (C hf Z (fun h1 hf=>?_) fun h1 hf=>?_)
 · cases hf; exact M 1 Z (Y Z h)
 refine B1 hf fun x1 h2 hf=>Wr 2 [0] Z Z (CL Z (Oy _ h2 ?_)); refine B1 hf fun b1 h4 hf=>U 2 Z (AR.dH 10 12 22 false [1,3] b1 Z Z (fun h3=>?_) (fun h3=>?_) ?_)
 ·
  replace h4:=jg h3 h4; refine Is 12 h3 Z (U 1 Z (GO Z (AO.dW (i:=0) Z Z Z Gx Z Z ?_))); refine B1 h4 fun x2 h5 h4=>GO Z (AO.call Z _ Z Z Yq (qN _ h5 (U 1 Z (AR.and 5 16 21 [1,3,12] (x:=((t2.elem.length:Int) != 1)) Z Z (fun h6=>?_) (fun h6=>?_) ?_))))
  · refine Is 16 h6 Z (U 1 Z (GO Z (AO.dW (i:=0) Z Z Z aaV Z Z (GO Z (AO.aU (l:=t2.elem) Z Z Z Z Pt Z (aG.aO _) ?_))))); exact dP 2 Z (En [21,1,3,12] Z)
  · refine Is 16 h6 Z ?_; exact dP 5 Z (En [21,1,3,12] Z)
  cases h4; exact dP 1 Z (En [22,1,3] Z)
 · refine IT 12 h3 h4 Z fun h4=>?_; cases h4; exact dP 10 Z (En [22,1,3] Z)
 refine B1 hf fun b2 h8 hf=>U 1 Z (AR.dH 11 23 34 false [1,3] b2 Z Z (fun h7=>?_) (fun h7=>?_) ?_)
 ·
  replace h8:=jg h7 h8; refine Is 23 h7 Z (U 1 Z (GO Z (AO.dW (i:=0) Z Z Z Gx Z Z ?_))); refine B1 h8 fun x3 h9 h8=>GO Z (AO.call Z _ Z Z Yq (qN _ h9 (U 2 Z (AR.and 5 28 33 [1,3,23] (x:=((t2.elem.length:Int) != 0)) Z Z (fun h10=>?_) (fun h10=>?_) ?_))))
  · refine Is 28 h10 Z (U 1 Z (GO Z (AO.dW (i:=0) Z Z Z aaV Z Z (GO Z (AO.aU (l:=t2.elem) Z Z Z Z Pt Z (aG.aO _) ?_))))); exact dP 2 Z (En [33,1,3,23] Z)
  · refine Is 28 h10 Z ?_; exact dP 5 Z (En [33,1,3,23] Z)
  cases h8; exact dP 1 Z (En [34,1,3] Z)
 · refine IT 23 h7 h8 Z fun h8=>?_; cases h8; exact dP 11 Z (En [34,1,3] Z)
 refine J 0 Z (C hf Z (fun h11 hf=>?_) fun h11 hf=>?_)
 · cases hf; exact M 1 Z (Y Z h)
 refine B1 hf fun x4 h12 hf=>Wr 2 [0] Z Z (CL Z (qN _ h12 (J 1 Z (C hf Z (fun kL hf=>?_) fun kL hf=>?_))))
 · cases hf; exact M 1 Z (Y Z h)
 refine B1 hf fun e1 lD hf=>Wr 2 [0] Z Z (AS Z (AO.bF lD Z Z (aG.aO _) Z Pt (aG.aP _) Z ?_)); exact Rx 5 [0] Z Z ⟨(bV (cB + 1)),e1,Z,Z,Z,hf⟩
theorem Ke (gF:List dM) {r0:Int} (hf:FP gF=some r0) (h:Q (.ret (iP r0)) τ):PC 50 [.list (List.map dM.cells gF)] τ Q:=by
 unfold FP at hf; refine BN 39 [.tmp 2] [0] Tryz.func50 Z Z Z Z Z (W 2 Z (AS Z (AO.aU (l:=gF) Z Z Z Z SV Z Z (J 1 Z (C hf Z (fun h1 hf=>?_) fun h1 hf=>?_)))))
 · cases hf; exact M 1 Z (Y Z h)
 refine W 0 Z (AS Z (AO.Mi Z (fun m10=>(U 2 Z (AS Z (AO.aU (l:=gF) Z Z Z Z SV Z Z (J 1 Z (Rk (fun x1 y1=>[(3,.val (.map (some m10))),(11,.list (List.map dM.cells gF)),(12,iP (gF.length:Int)),(13,iP x1)]) (fun x1 y1=>[.obj m10 (tV y1)]) (fun dA x1 y1=>yU gF dA x1 y1=some r0) BIG 0 [] Z Z hf (fun _ _ hz=>bI hz) ?_)))))))); intro dA x1 y1 hf; rw [yU] at hf; refine V 1 Z (C hf Z (fun h2 hf=>?_) fun h2 hf=>?_)
 ·
  refine B1 hf fun e1 h3 hf=>W 0 Z (AS Z (AO.bF h3 Z Z Z Z SV (dM.aP _) Z (U 1 Z (AS Z (AO.aN Z aaP (fun b5=>?_)))))); refine B1 hf fun x2 h4 hf=>Rr 4 [0,0] Z Z (CL Z (pU _ h4 (J 1 Z (C hf Z (fun h5 hf=>?_) fun h5 hf=>?_))))
  · cases hf; exact M 1 Z (Y Z h)
  refine B1 hf fun e2 h6 hf=>Wr 2 [0] Z Z (CL Z (zV _ h6 (J 3 Z (C hf Z (fun h7 hf=>?_) fun h7 hf=>?_))))
  · cases hf; exact M 2 Z (Y Z h)
  refine Wr 3 [0] Z Z (AS Z (AO.FI (i:=1) (l:=y1) Z Z Z Z CQ dh VY (U 1 Z (AR.dx Z Z (AO.GJ (i:=1) (l:=y1) Z Z Z Z Z CQ dh (Rr 3 [0] Z Z (AS Z (AO.FI (i:=1) (l:=(uq y1 e1.name (bV ((sU y1 e1.name) + 1)))) Z Z Z Z CQ dh VY (J 1 Z (C hf Z (fun h8 hf=>?_) fun h8 hf=>?_))))))))))
  · cases hf; exact M 1 Z (Y Z h)
  refine Wn0 2 Z (AR.drop1 ?_); exact N 0 Z ⟨(bV (x1 + 1)),(uq y1 e1.name (bV ((sU y1 e1.name) + 1))),Z,Z,Z,hf⟩
 cases hf; exact M 1 Z (Y Z h)
theorem jI (jU:Int) {r0:aG} (hf:jE jU=some r0) (h:Q (.ret (.agg (eO r0))) τ):PC 156 [iP jU] τ Q:=by
 unfold jE at hf; refine BN 5 [.cell 2 63] [0] Tryz.func156 Z Z Z Z Z (W 0 Z (AS Z (AO.aN Z yB (fun b2=>?_)))); cases hf; exact Rx 3 [0] Z Z (ZC [0] Z Z h)
abbrev Fh (qL:aG→Option aG):Prop:=∀ (TY:aG) {aV:aG},qL TY=some aV→∀ {τ:List bA} {Q:eT→List bA→Prop} (h:Q (.ret (.agg (eO aV))) τ),PC 230 [.agg (eO TY)] τ Q
theorem Ld (qL) (Xa:Fh qL) (t1:aG) {r0:aG} (hf:zy qL t1=some r0) (h:Q (.ret (.agg (eO r0))) τ):PC 230 [.agg (eO t1)] τ Q:=by
 unfold zy at hf; refine BN 18 [.cell 2 63] [0] Tryz.func230 Z Z Z Z Z (W 1 Z (AS Z (AO.aN Z yB (fun b2=>?_)))); refine B1 hf fun x1 h1 hf=>U 2 Z (CL Z (qN _ h1 (J 1 Z (C hf Z (fun h2 hf=>?_) fun h2 hf=>?_))))
 · refine BR hf fun x2 h3 hf=>?_; refine W 2 Z (CL Z (jI _ h3 ?_)); cases hf; exact Rx 1 [0] Z Z (ZC [0] Z Z h)
 exact bI hf
theorem Mf :∀ k:Nat,(Fh (rO k)):=by
 intro k
 induction k with
 | zero=>exact fun _ _ hz=>by first | cases hz | (unfold rO at hz; cases hz)
 | succ k ih=>exact fun TY aV hz τ Q hq=>Ld (rO k) ih TY hz hq
theorem EU (TY:aG) {aV:aG} (hf:Cw TY=some aV) (h:Q (.ret (.agg (eO aV))) τ):PC 230 [.agg (eO TY)] τ Q:=
 ((Mf BIG)) TY hf h
abbrev Gn (sw:aG→aG→Option aG):Prop:=∀ (tJ:aG) (tH:aG) {aV:aG},sw tJ tH=some aV→∀ {τ:List bA} {Q:eT→List bA→Prop} (h:Q (.ret (.agg (eO aV))) τ),PC 157 [.agg (eO tJ),.agg (eO tH)] τ Q
theorem NV (sw) (XF:Gn sw) (a1:aG) (b1:aG) {r0:aG} (hf:Bc sw a1 b1=some r0) (h:Q (.ret (.agg (eO r0))) τ):PC 157 [.agg (eO a1),.agg (eO b1)] τ Q:=by
 unfold Bc at hf; refine BN 43 [.cell 4 63] [0,1] Tryz.func157 Z Z Z Z Z (W 2 Z (AS Z (AO.aN Z yB (fun b4=>(J 4 Z (C hf Z (fun h1 hf=>?_) fun h1 hf=>?_))))))
 · refine BR hf fun x1 h2 hf=>?_; refine W 1 Z (CL Z (EU _ h2 ?_)); cases hf; exact Rx 1 [0] Z Z (ZC [0] Z Z h)
 refine V 4 Z (C hf Z (fun h3 hf=>?_) fun h3 hf=>?_)
 · refine BR hf fun x2 h4 hf=>?_; refine W 1 Z (CL Z (EU _ h4 ?_)); cases hf; exact Rx 1 [0] Z Z (ZC [0] Z Z h)
 refine V 6 Z (C hf Z (fun h5 hf=>?_) fun h5 hf=>?_)
 · refine BR hf fun x3 h6 hf=>?_; refine W 0 Z (CL Z (jI _ h6 ?_)); cases hf; exact Rx 1 [0] Z Z (ZC [0] Z Z h)
 refine B1 hf fun x4 h7 hf=>W 2 Z (CL Z (qN _ h7 (J 1 Z (C hf Z (fun h8 hf=>?_) fun h8 hf=>?_))))
 · exact bI hf
 refine BR hf fun x5 h9 hf=>?_; refine W 2 Z (CL Z (jI _ h9 ?_)); cases hf; exact Rx 1 [0] Z Z (ZC [0] Z Z h)
theorem Od :∀ k:Nat,(Gn (uh k)):=by
 intro k
 induction k with
 | zero=>exact fun _ _ _ hz=>by first | cases hz | (unfold uh at hz; cases hz)
 | succ k ih=>exact fun tJ tH aV hz τ Q hq=>NV (uh k) ih tJ tH hz hq
theorem Gf (tJ:aG) (tH:aG) {aV:aG} (hf:D7 tJ tH=some aV) (h:Q (.ret (.agg (eO aV))) τ):PC 157 [.agg (eO tJ),.agg (eO tH)] τ Q:=
 ((Od BIG)) tJ tH hf h
abbrev Gp (j_:ak→Option aG):Prop:=∀ (yc:ak) {aV:aG},j_ yc=some aV→∀ {τ:List bA} {Q:eT→List bA→Prop} (h:Q (.ret (.agg (eO aV))) τ),PC 224 [.agg (bK yc)] τ Q
theorem NW (j_) (KA:Gp j_) (v1:ak) {r0:aG} (hf:Bf j_ v1=some r0) (h:Q (.ret (.agg (eO r0))) τ):PC 224 [.agg (bK v1)] τ Q:=by
 unfold Bf at hf; refine BN 40 [.cell 2 63] [0] Tryz.func224 Z Z Z Z Z (W 1 Z (AS Z (AO.aN Z yB (fun b2=>(J 4 Z (C hf Z (fun h1 hf=>?_) fun h1 hf=>?_))))))
 · refine BR hf fun x1 h2 hf=>?_; refine W 0 Z (CL Z (jI _ h2 ?_)); cases hf; exact Rx 1 [0] Z Z (ZC [0] Z Z h)
 refine V 2 Z (C hf Z (fun h3 hf=>?_) fun h3 hf=>?_)
 · refine BR hf fun x2 h4 hf=>?_; refine W 0 Z (CL Z (jI _ h4 ?_)); cases hf; exact Rx 1 [0] Z Z (ZC [0] Z Z h)
 refine V 2 Z (C hf Z (fun h5 hf=>?_) fun h5 hf=>?_)
 · refine BR hf fun x3 h6 hf=>?_; refine W 0 Z (CL Z (jI _ h6 ?_)); cases hf; exact Rx 1 [0] Z Z (ZC [0] Z Z h)
 refine V 2 Z (C hf Z (fun h7 hf=>?_) fun h7 hf=>?_)
 · refine BR hf fun x4 h8 hf=>?_; refine W 0 Z (CL Z (jI _ h8 ?_)); cases hf; exact Rx 1 [0] Z Z (ZC [0] Z Z h)
 refine B1 hf fun x5 h9 hf=>W 0 Z (CL Z (jI _ h9 (AS Z (AO.aN Z yB (fun b3=>(Rr 3 [0] Z Z (AS Z (AO.aU (l:=v1.bT) Z Z Z Z lC Z (ak.aO _) ?_)))))))); refine J 1 Z (Rk (fun x6 MR=>[(1,.ref (bK v1)),(2,pP b2),(3,pP b3),(22,.list (ak.bR v1.bT)),(23,iP (v1.bT.length:Int)),(24,iP x6)]) (fun x6 MR=>[.box b3 (eO MR),.box b2 [iP 0,.own (.slice none 0 0) []]]) (fun dA x6 MR=>vF j_ v1 dA x6 MR=some r0) BIG 0 x5 Z Z hf (fun _ _ hz=>bI hz) ?_); intro dA x6 MR hf; rw [vF] at hf; refine V 1 Z (C hf Z (fun h10 hf=>?_) fun h10 hf=>?_)
 ·
  refine B1 hf fun e1 h11 hf=>W 0 Z (AS Z (AO.bF h11 Z Z (ak.aO _) Z lC (ak.aP _) Z (U 1 Z (AS Z (AO.aN Z rG (fun b5=>(Rw 1 [0] Z Z (AW.draw 4 mixed (by kernel_rfl) Z ?_)))))))); refine Ev.cons Z Z Z (AO.dW (i:=1) Z Z Z XY Z Z zg) (Ev.cons Z Z Z (AO.dW (i:=0) Z Z Z Ea Z Z zg) ?_); refine B1 hf fun x7 h12 hf=>Ev.cons Z Z Z (AO.call Z _ Z Z abY (KA _ h12 zg)) ?_; refine B1 hf fun x8 kL hf=>Ev.cons Z Z Z (AO.call Z _ Z Z acd (Gf _ _ kL zg)) (Ev.nil ?_); show AR _ _ _ _ _ _ _ _; refine Rn 3 [1] Z Z (AR.drop1 ?_); exact N 0 Z ⟨(bV (x6 + 1)),x8,Z,Z,Z,hf⟩
 refine V 3 Z (C hf Z (fun lD hf=>?_) fun lD hf=>?_)
 · exact bI hf
 exact bI hf
theorem Oe :∀ k:Nat,(Gp (uj k)):=by
 intro k
 induction k with
 | zero=>exact fun _ _ hz=>by first | cases hz | (unfold uj at hz; cases hz)
 | succ k ih=>exact fun yc aV hz τ Q hq=>NW (uj k) ih yc hz hq
theorem Oz (yc:ak) {aV:aG} (hf:JR yc=some aV) (h:Q (.ret (.agg (eO aV))) τ):PC 224 [.agg (bK yc)] τ Q:=
 ((Oe BIG)) yc hf h
theorem Tj (v1:ak) {r0:aG} (hf:IJ v1=some r0) (h:Q (.ret (.agg (eO r0))) τ):PC 147 [.agg (bK v1)] τ Q:=by
 unfold IJ at hf; refine BN 9 [.cell 2 63] [0] Tryz.func147 Z Z Z Z Z (W 1 Z (AS Z (AO.aN Z yB (fun b2=>?_)))); refine B1 hf fun x1 h1 hf=>U 1 Z (CL Z (qW _ h1 (J 1 Z (C hf Z (fun h2 hf=>?_) fun h2 hf=>?_))))
 · refine BR hf fun x2 h3 hf=>?_; refine W 0 Z (CL Z (jI _ h3 ?_)); cases hf; exact Rx 1 [0] Z Z (ZC [0] Z Z h)
 refine BR hf fun x3 h4 hf=>?_; refine W 1 Z (CL Z (Oz _ h4 ?_)); cases hf; exact Rx 1 [0] Z Z (ZC [0] Z Z h)
theorem JE (gF:List dM) (name1:Str) {r0:aG} {r1:Int} (hf:zU gF name1=some (r0,r1)) (h:Q (.ret (.tuple [.agg (eO r0),iP r1])) τ):PC 148 [.list (List.map dM.cells gF),.str name1] τ Q:=by
 unfold zU at hf; refine BN 22 [.cell 4 63,.tmp 5] [0,1] Tryz.func148 Z Z Z Z Z (W 0 Z (AS Z (AO.aN Z yB (fun b4=>(U 2 Z (AS Z (AO.aU (l:=gF) Z Z Z Z SV Z Z (J 1 Z (FT (fun x1=>[(1,.str name1),(4,pP b4),(8,.list (List.map dM.cells gF)),(9,iP (gF.length:Int)),(10,iP x1)]) (fun x1=>[.box b4 [iP 0,.own (.slice none 0 0) []]]) (fun dA x1=>rA gF name1 dA x1=some (r0,r1)) BIG 0 Z Z hf (fun _ hz=>bI hz) ?_))))))))); intro dA x1 hf; rw [rA] at hf; refine V 1 Z (C hf Z (fun h1 hf=>?_) fun h1 hf=>?_)
 ·
  refine B1 hf fun e1 h2 hf=>W 0 Z (AS Z (AO.bF h2 Z Z Z Z SV (dM.aP _) Z (U 1 Z (AS Z (AO.aN Z aaP (fun b7=>(Rw 5 [0,0] Z Z (C hf Z (fun h3 hf=>?_) fun h3 hf=>?_))))))))
  · cases hf; exact Wx 4 [0,1] Z Z (ZC [1] Z Z h)
  refine Wn0 2 Z (AR.drop1 ?_); exact N 0 Z ⟨(bV (x1 + 1)),Z,Z,Z,hf⟩
 cases hf; exact Wx 3 [0] Z Z (ZC [0] Z Z h)
theorem jC (jU:Int) {r0:aG} (hf:kV jU=some r0) (h:Q (.ret (.agg (eO r0))) τ):PC 88 [iP jU] τ Q:=by
 unfold kV at hf; refine BN 5 [.cell 2 63] [0] Tryz.func88 Z Z Z Z Z (W 0 Z (AS Z (AO.aN Z yB (fun b2=>?_)))); cases hf; exact Rx 3 [0] Z Z (ZC [0] Z Z h)
theorem nC (jU:Int) (c1:aG) (c2:aG) {r0:Bool} (hf:l9 jU c1 c2=some r0) (h:Q (.ret (.bool r0)) τ):PC 226 [iP jU,.ref (eO c1),.ref (eO c2)] τ Q:=by
 unfold l9 at hf; refine BN 15 [.tmp 4] [0,1,2] Tryz.func226 Z Z Z Z Z ?_; exact bI hf
theorem jJ (t1:aG) {r0:Bool} (hf:jX t1=some r0) (h:Q (.ret (.bool r0)) τ):PC 225 [.agg (eO t1)] τ Q:=by
 unfold jX at hf; refine BN 11 [.tmp 2] [0] Tryz.func225 Z Z Z Z Z (W 6 Z (On 4 6 10 [] (t1.kind == 7) Z Z Z Z ?_)); cases hf; exact N 1 Z (Y Z h)
theorem jD (a1:aG) (b1:aG) (jU:Int) {r0:Bool} (hf:jN a1 b1 jU=some r0) (h:Q (.ret (.bool r0)) τ):PC 227 [.agg (eO a1),.agg (eO b1),iP jU] τ Q:=by
 unfold jN at hf; refine BN 37 [.tmp 6] [0,1,2] Tryz.func227 Z Z Z Z Z ?_; refine B1 hf fun x1 h1 hf=>W 4 Z (CL Z (jJ _ h1 (U 1 Z (On 5 9 14 [2,3,4] (a1.kind == jU) Z Z Z Z ?_)))); refine B1 hf fun b2 h4 hf=>U 1 Z (AR.dH 9 15 24 true [2,3,4] b2 Z Z (fun h3=>?_) (fun h3=>?_) ?_)
 · refine IT 15 h3 h4 Z fun h4=>?_; refine B1 h4 fun x2 h5 h4=>U 1 Z (GO Z (AO.call Z _ Z Z I9 (jJ _ h5 (U 1 Z (On 5 18 23 [2,3,4,15] (b1.kind == jU) Z Z Z Z ?_))))); cases h4; exact dP 1 Z (En [24,2,3,4] Z)
 · refine IF 15 h3 h4 Z fun h4=>?_; cases h4; exact dP 9 Z (En [24,2,3,4] Z)
 refine U 1 Z (AR.and 11 25 36 [] (x:=((a1.kind == jU) || (b1.kind == jU))) Z Z (fun h7=>?_) (fun h7=>?_) ?_)
 · refine Is 25 h7 Z (U 5 Z (On 5 30 35 [25] (b1.kind == jU) Z Z Z Z ?_)); exact dP 1 Z (En [36] Z)
 · refine Is 25 h7 Z ?_; exact dP 11 Z (En [36] Z)
 cases hf; exact N 1 Z (Y Z h)
theorem OA (a1:aG) (b1:aG) {r0:Bool} (hf:D8 a1 b1=some r0) (h:Q (.ret (.bool r0)) τ):PC 155 [.agg (eO a1),.agg (eO b1)] τ Q:=by
 unfold D8 at hf; refine BN 13 [.tmp 4] [0,1] Tryz.func155 Z Z Z Z Z ?_; refine B1 hf fun x1 h1 hf=>W 4 Z (CL Z (zV _ h1 ?_)); refine BR hf fun b2 h3 hf=>?_; refine U 2 Z (AR.dH 4 8 12 true [] b2 Z Z (fun h2=>?_) (fun h2=>?_) ?_)
 · refine IT 8 h2 h3 Z fun h3=>?_; refine B1 h3 fun x2 h4 h3=>U 1 Z (GO Z (AO.call Z _ Z Z adK (zV _ h4 ?_))); cases h3; exact dP 2 Z (En [12] Z)
 · refine IF 8 h2 h3 Z fun h3=>?_; cases h3; exact dP 4 Z (En [12] Z)
 cases hf; exact N 1 Z (Y Z h)
theorem OB (a1:aG) (b1:aG) {r0:aG} (hf:D9 a1 b1=some r0) (h:Q (.ret (.agg (eO r0))) τ):PC 87 [.agg (eO a1),.agg (eO b1)] τ Q:=by
 unfold D9 at hf; refine BN 13 [.cell 4 63] [0,1] Tryz.func87 Z Z Z Z Z (W 2 Z (AS Z (AO.aN Z yB (fun b4=>?_)))); refine B1 hf fun x1 h1 hf=>U 2 Z (CL Z (OA _ _ h1 (J 1 Z (C hf Z (fun h2 hf=>?_) fun h2 hf=>?_))))
 · refine BR hf fun x2 h3 hf=>?_; refine W 0 Z (CL Z (jI _ h3 ?_)); cases hf; exact Rx 1 [0] Z Z (ZC [0] Z Z h)
 refine BR hf fun x3 h4 hf=>?_; refine W 2 Z (CL Z (Gf _ _ h4 ?_)); cases hf; exact Rx 1 [0] Z Z (ZC [0] Z Z h)
theorem TN (a1:aG) (b1:aG) {r0:aG} {r1:Int} (hf:Jt a1 b1=some (r0,r1)) (h:Q (.ret (.tuple [.agg (eO r0),iP r1])) τ):PC 228 [.agg (eO a1),.agg (eO b1)] τ Q:=by
 unfold Jt at hf; refine BN 44 [.cell 4 63,.tmp 5] [0,1] Tryz.func228 Z Z Z Z Z (W 2 Z (AS Z (AO.aN Z yB (fun b4=>?_)))); refine B1 hf fun x1 h1 hf=>U 2 Z (CL Z (jJ _ h1 ?_)); refine B1 hf fun b2 h3 hf=>U 1 Z (AR.dH 3 9 12 true [2,3,4] b2 Z Z (fun h2=>?_) (fun h2=>?_) ?_)
 · refine IT 9 h2 h3 Z fun h3=>?_; refine BR h3 fun x2 h4 h3=>?_; refine U 1 Z (GO Z (AO.call Z _ Z Z I9 (jJ _ h4 ?_))); cases h3; exact dP 1 Z (En [12,2,3,4] Z)
 · refine IF 9 h2 h3 Z fun h3=>?_; cases h3; exact dP 3 Z (En [12,2,3,4] Z)
 refine J 1 Z (C hf Z (fun h5 hf=>?_) fun h5 hf=>?_)
 ·
  refine W 4 Z (On 4 16 20 [4] (b1.kind == 0) Z Z Z Z (J 0 Z (C hf Z (fun h7 hf=>?_) fun h7 hf=>?_)))
  · refine B1 hf fun x3 h8 hf=>W 0 Z (CL Z (jC _ h8 ?_)); cases hf; exact Rx 2 [0] Z Z (ZC [0] Z Z h)
  refine B1 hf fun x4 h9 hf=>W 0 Z (CL Z (jC _ h9 ?_)); cases hf; exact Rx 2 [0] Z Z (ZC [0] Z Z h)
 refine B1 hf fun x5 h10 hf=>W 2 Z (CL Z (jD _ _ _ h10 (J 1 Z (C hf Z (fun h11 hf=>?_) fun h11 hf=>?_))))
 · refine B1 hf fun x6 h12 hf=>W 0 Z (CL Z (jC _ h12 ?_)); cases hf; exact Rx 2 [0] Z Z (ZC [0] Z Z h)
 refine B1 hf fun x7 kL hf=>W 2 Z (CL Z (jD _ _ _ kL (J 1 Z (C hf Z (fun lD hf=>?_) fun lD hf=>?_))))
 · refine B1 hf fun x8 nT hf=>W 0 Z (CL Z (jC _ nT ?_)); cases hf; exact Rx 2 [0] Z Z (ZC [0] Z Z h)
 refine B1 hf fun x9 h16 hf=>W 2 Z (CL Z (jD _ _ _ h16 (J 1 Z (C hf Z (fun wP hf=>?_) fun wP hf=>?_))))
 · exact bI hf
 cases hf; exact Wx 3 [0] Z Z (ZC [0] Z Z h)
theorem NC (op1:Str) (a1:aG) (b1:aG) {r0:aG} {r1:Int} (hf:Db op1 a1 b1=some (r0,r1)) (h:Q (.ret (.tuple [.agg (eO r0),iP r1])) τ):PC 152 [.str op1,.agg (eO a1),.agg (eO b1)] τ Q:=by
 unfold Db at hf; refine BN 59 [.cell 6 63,.tmp 7] [0,1,2] Tryz.func152 Z Z Z Z Z (W 2 Z (AS Z (AO.aN Z yB (fun b6=>(J 6 Z (C hf Z (fun h1 hf=>?_) fun h1 hf=>?_))))))
 ·
  refine V 0 Z (AW.cond Z (fun h2=>?_) (fun h2=>?_))
  ·
   refine B1 hf fun x1 h3 hf=>W 1 Z (CL Z (nC _ _ _ h3 (J 0 Z (C hf Z (fun h4 hf=>?_) fun h4 hf=>?_))))
   · refine B1 hf fun x2 h5 hf=>W 0 Z (CL Z (jC _ h5 ?_)); cases hf; exact Rx 2 [0] Z Z (ZC [0] Z Z h)
   cases hf; exact Wx 3 [0] Z Z (ZC [0] Z Z h)
  cases h1.symm.trans h2
 refine V 2 Z (C hf Z (fun h6 hf=>?_) fun h6 hf=>?_)
 ·
  refine B1 hf fun x3 h7 hf=>W 1 Z (CL Z (nC _ _ _ h7 (J 0 Z (C hf Z (fun h8 hf=>?_) fun h8 hf=>?_))))
  · refine B1 hf fun x4 h9 hf=>W 0 Z (CL Z (jC _ h9 ?_)); cases hf; exact Rx 2 [0] Z Z (ZC [0] Z Z h)
  cases hf; exact Wx 3 [0] Z Z (ZC [0] Z Z h)
 refine V 2 Z (C hf Z (fun h10 hf=>?_) fun h10 hf=>?_)
 ·
  refine V 0 Z (AW.cond Z (fun h11=>?_) (fun h11=>?_))
  · refine B1 hf fun x5 h12 hf=>W 0 Z (CL Z (jC _ h12 ?_)); cases hf; exact Rx 2 [0] Z Z (ZC [0] Z Z h)
  cases h10.symm.trans h11
 refine V 2 Z (C hf Z (fun kL hf=>?_) fun kL hf=>?_)
 · refine B1 hf fun x6 lD hf=>W 0 Z (CL Z (jC _ lD ?_)); cases hf; exact Rx 2 [0] Z Z (ZC [0] Z Z h)
 refine V 2 Z (C hf Z (fun nT hf=>?_) fun nT hf=>?_)
 ·
  refine V 0 Z (AW.cond Z (fun h16=>?_) (fun h16=>?_))
  ·
   refine B1 hf fun x7 wP hf=>W 1 Z (CL Z (jJ _ wP ?_)); refine B1 hf fun b2 h19 hf=>U 1 Z (AR.dH 3 28 31 true [4,5,6] b2 Z Z (fun h18=>?_) (fun h18=>?_) ?_)
   · refine IT 28 h18 h19 Z fun h19=>?_; refine BR h19 fun x8 h20 h19=>?_; refine U 1 Z (GO Z (AO.call Z _ Z Z I9 (jJ _ h20 ?_))); cases h19; exact dP 1 Z (En [31,4,5,6] Z)
   · refine IF 28 h18 h19 Z fun h19=>?_; cases h19; exact dP 3 Z (En [31,4,5,6] Z)
   refine B1 hf fun b3 h22 hf=>U 1 Z (AR.dH 4 32 36 false [4,5,6] b3 Z Z (fun h21=>?_) (fun h21=>?_) ?_)
   · refine IF 32 h21 h22 Z fun h22=>?_; refine BR h22 fun x9 h23 h22=>?_; refine U 2 Z (GO Z (AO.call Z _ Z Z Es (jD _ _ _ h23 ?_))); cases h22; exact dP 1 Z (En [36,4,5,6] Z)
   · refine IT 32 h21 h22 Z fun h22=>?_; cases h22; exact dP 4 Z (En [36,4,5,6] Z)
   refine B1 hf fun b4 IB hf=>U 1 Z (AR.dH 4 37 41 false [6] b4 Z Z (fun Du=>?_) (fun Du=>?_) ?_)
   · refine IF 37 Du IB Z fun IB=>?_; refine BR IB fun JK Qw IB=>?_; refine U 2 Z (GO Z (AO.call Z _ Z Z Es (jD _ _ _ Qw ?_))); cases IB; exact dP 1 Z (En [41,6] Z)
   · refine IT 37 Du IB Z fun IB=>?_; cases IB; exact dP 4 Z (En [41,6] Z)
   refine J 0 Z (C hf Z (fun h27 hf=>?_) fun h27 hf=>?_)
   · refine B1 hf fun Rs Ol hf=>W 0 Z (CL Z (jC _ Ol ?_)); cases hf; exact Rx 2 [0] Z Z (ZC [0] Z Z h)
   cases hf; exact Wx 3 [0] Z Z (ZC [0] Z Z h)
  cases nT.symm.trans h16
 refine V 2 Z (C hf Z (fun W9 hf=>?_) fun W9 hf=>?_)
 ·
  refine V 0 Z (AW.cond Z (fun WZ=>?_) (fun WZ=>?_))
  ·
   refine B1 hf fun Xz h31 hf=>W 1 Z (CL Z (jJ _ h31 ?_)); refine B1 hf fun b5 Qv hf=>U 1 Z (AR.dH 3 28 31 true [4,5,6] b5 Z Z (fun h32=>?_) (fun h32=>?_) ?_)
   · refine IT 28 h32 Qv Z fun Qv=>?_; refine BR Qv fun ZH F3 Qv=>?_; refine U 1 Z (GO Z (AO.call Z _ Z Z I9 (jJ _ F3 ?_))); cases Qv; exact dP 1 Z (En [31,4,5,6] Z)
   · refine IF 28 h32 Qv Z fun Qv=>?_; cases Qv; exact dP 3 Z (En [31,4,5,6] Z)
   refine B1 hf fun b6 WY hf=>U 1 Z (AR.dH 4 32 36 false [4,5,6] b6 Z Z (fun Pp=>?_) (fun Pp=>?_) ?_)
   · refine IF 32 Pp WY Z fun WY=>?_; refine BR WY fun x14 h37 WY=>?_; refine U 2 Z (GO Z (AO.call Z _ Z Z Es (jD _ _ _ h37 ?_))); cases WY; exact dP 1 Z (En [36,4,5,6] Z)
   · refine IT 32 Pp WY Z fun WY=>?_; cases WY; exact dP 4 Z (En [36,4,5,6] Z)
   refine B1 hf fun b7 NS hf=>U 1 Z (AR.dH 4 37 41 false [6] b7 Z Z (fun XE=>?_) (fun XE=>?_) ?_)
   · refine IF 37 XE NS Z fun NS=>?_; refine BR NS fun x15 YX NS=>?_; refine U 2 Z (GO Z (AO.call Z _ Z Z Es (jD _ _ _ YX ?_))); cases NS; exact dP 1 Z (En [41,6] Z)
   · refine IT 37 XE NS Z fun NS=>?_; cases NS; exact dP 4 Z (En [41,6] Z)
   refine J 0 Z (C hf Z (fun ZK hf=>?_) fun ZK hf=>?_)
   · refine B1 hf fun x16 UK hf=>W 0 Z (CL Z (jC _ UK ?_)); cases hf; exact Rx 2 [0] Z Z (ZC [0] Z Z h)
   cases hf; exact Wx 3 [0] Z Z (ZC [0] Z Z h)
  cases W9.symm.trans WZ
 refine V 2 Z (C hf Z (fun h43 hf=>?_) fun h43 hf=>?_)
 ·
  refine V 0 Z (AW.cond Z (fun YW=>?_) (fun YW=>?_))
  ·
   refine B1 hf fun x17 h45 hf=>W 1 Z (CL Z (jJ _ h45 ?_)); refine B1 hf fun b8 h47 hf=>U 1 Z (AR.dH 3 28 31 true [4,5,6] b8 Z Z (fun h46=>?_) (fun h46=>?_) ?_)
   · refine IT 28 h46 h47 Z fun h47=>?_; refine BR h47 fun x18 h48 h47=>?_; refine U 1 Z (GO Z (AO.call Z _ Z Z I9 (jJ _ h48 ?_))); cases h47; exact dP 1 Z (En [31,4,5,6] Z)
   · refine IF 28 h46 h47 Z fun h47=>?_; cases h47; exact dP 3 Z (En [31,4,5,6] Z)
   refine B1 hf fun b9 h50 hf=>U 1 Z (AR.dH 4 32 36 false [4,5,6] b9 Z Z (fun h49=>?_) (fun h49=>?_) ?_)
   · refine IF 32 h49 h50 Z fun h50=>?_; refine BR h50 fun x19 h51 h50=>?_; refine U 2 Z (GO Z (AO.call Z _ Z Z Es (jD _ _ _ h51 ?_))); cases h50; exact dP 1 Z (En [36,4,5,6] Z)
   · refine IT 32 h49 h50 Z fun h50=>?_; cases h50; exact dP 4 Z (En [36,4,5,6] Z)
   refine B1 hf fun b10 ZJ hf=>U 1 Z (AR.dH 4 37 41 false [6] b10 Z Z (fun h52=>?_) (fun h52=>?_) ?_)
   · refine IF 37 h52 ZJ Z fun ZJ=>?_; refine BR ZJ fun x20 h54 ZJ=>?_; refine U 2 Z (GO Z (AO.call Z _ Z Z Es (jD _ _ _ h54 ?_))); cases ZJ; exact dP 1 Z (En [41,6] Z)
   · refine IT 37 h52 ZJ Z fun ZJ=>?_; cases ZJ; exact dP 4 Z (En [41,6] Z)
   refine J 0 Z (C hf Z (fun h55 hf=>?_) fun h55 hf=>?_)
   · refine B1 hf fun x21 h56 hf=>W 0 Z (CL Z (jC _ h56 ?_)); cases hf; exact Rx 2 [0] Z Z (ZC [0] Z Z h)
   cases hf; exact Wx 3 [0] Z Z (ZC [0] Z Z h)
  cases h43.symm.trans YW
 refine V 2 Z (C hf Z (fun h57 hf=>?_) fun h57 hf=>?_)
 ·
  refine B1 hf fun x22 h58 hf=>W 1 Z (CL Z (jJ _ h58 ?_)); refine B1 hf fun b11 h60 hf=>U 1 Z (AR.dH 3 28 31 true [4,5,6] b11 Z Z (fun h59=>?_) (fun h59=>?_) ?_)
  · refine IT 28 h59 h60 Z fun h60=>?_; refine BR h60 fun x23 h61 h60=>?_; refine U 1 Z (GO Z (AO.call Z _ Z Z I9 (jJ _ h61 ?_))); cases h60; exact dP 1 Z (En [31,4,5,6] Z)
  · refine IF 28 h59 h60 Z fun h60=>?_; cases h60; exact dP 3 Z (En [31,4,5,6] Z)
  refine B1 hf fun b12 h63 hf=>U 1 Z (AR.dH 4 32 36 false [4,5,6] b12 Z Z (fun h62=>?_) (fun h62=>?_) ?_)
  · refine IF 32 h62 h63 Z fun h63=>?_; refine BR h63 fun x24 h64 h63=>?_; refine U 2 Z (GO Z (AO.call Z _ Z Z Es (jD _ _ _ h64 ?_))); cases h63; exact dP 1 Z (En [36,4,5,6] Z)
  · refine IT 32 h62 h63 Z fun h63=>?_; cases h63; exact dP 4 Z (En [36,4,5,6] Z)
  refine B1 hf fun b13 h66 hf=>U 1 Z (AR.dH 4 37 41 false [6] b13 Z Z (fun h65=>?_) (fun h65=>?_) ?_)
  · refine IF 37 h65 h66 Z fun h66=>?_; refine BR h66 fun x25 h67 h66=>?_; refine U 2 Z (GO Z (AO.call Z _ Z Z Es (jD _ _ _ h67 ?_))); cases h66; exact dP 1 Z (En [41,6] Z)
  · refine IT 37 h65 h66 Z fun h66=>?_; cases h66; exact dP 4 Z (En [41,6] Z)
  refine J 0 Z (C hf Z (fun h68 hf=>?_) fun h68 hf=>?_)
  · refine B1 hf fun x26 h69 hf=>W 0 Z (CL Z (jC _ h69 ?_)); cases hf; exact Rx 2 [0] Z Z (ZC [0] Z Z h)
  cases hf; exact Wx 3 [0] Z Z (ZC [0] Z Z h)
 refine V 2 Z (C hf Z (fun h70 hf=>?_) fun h70 hf=>?_)
 ·
  refine V 0 Z (AW.cond Z (fun h71=>?_) (fun h71=>?_))
  ·
   refine B1 hf fun x27 h72 hf=>W 1 Z (CL Z (nC _ _ _ h72 (J 0 Z (C hf Z (fun h73 hf=>?_) fun h73 hf=>?_))))
   · refine B1 hf fun x28 h74 hf=>W 0 Z (CL Z (jC _ h74 ?_)); cases hf; exact Rx 2 [0] Z Z (ZC [0] Z Z h)
   cases hf; exact Wx 3 [0] Z Z (ZC [0] Z Z h)
  cases h70.symm.trans h71
 refine V 2 Z (C hf Z (fun h75 hf=>?_) fun h75 hf=>?_)
 ·
  refine V 0 Z (AW.cond Z (fun h76=>?_) (fun h76=>?_))
  ·
   refine B1 hf fun x29 h77 hf=>W 1 Z (CL Z (nC _ _ _ h77 (J 0 Z (C hf Z (fun h78 hf=>?_) fun h78 hf=>?_))))
   · refine B1 hf fun x30 h79 hf=>W 0 Z (CL Z (jC _ h79 ?_)); cases hf; exact Rx 2 [0] Z Z (ZC [0] Z Z h)
   cases hf; exact Wx 3 [0] Z Z (ZC [0] Z Z h)
  cases h75.symm.trans h76
 refine V 2 Z (C hf Z (fun h80 hf=>?_) fun h80 hf=>?_)
 ·
  refine V 0 Z (AW.cond Z (fun h81=>?_) (fun h81=>?_))
  ·
   refine B1 hf fun x31 h82 hf=>W 1 Z (CL Z (nC _ _ _ h82 (J 0 Z (C hf Z (fun h83 hf=>?_) fun h83 hf=>?_))))
   · refine B1 hf fun x32 h84 hf=>W 0 Z (CL Z (jC _ h84 ?_)); cases hf; exact Rx 2 [0] Z Z (ZC [0] Z Z h)
   cases hf; exact Wx 3 [0] Z Z (ZC [0] Z Z h)
  cases h80.symm.trans h81
 refine V 2 Z (C hf Z (fun h85 hf=>?_) fun h85 hf=>?_)
 ·
  refine B1 hf fun x33 h86 hf=>W 1 Z (CL Z (nC _ _ _ h86 (J 0 Z (C hf Z (fun h87 hf=>?_) fun h87 hf=>?_))))
  · refine B1 hf fun x34 h88 hf=>W 0 Z (CL Z (jC _ h88 ?_)); cases hf; exact Rx 2 [0] Z Z (ZC [0] Z Z h)
  cases hf; exact Wx 3 [0] Z Z (ZC [0] Z Z h)
 refine V 2 Z (C hf Z (fun h89 hf=>?_) fun h89 hf=>?_)
 · replace hf:=(FR _).trans hf; obtain ⟨x35,x36,h90,hf⟩:=dX hf; refine W 2 Z (CL Z (TN _ _ h90 ?_)); cases hf; exact Rx 4 [0] Z Z (ZC [0] Z Z h)
 cases hf; exact Wx 3 [0] Z Z (ZC [0] Z Z h)
abbrev Dk (iT:ah→List dM→Option (aG × Int)):Prop:=∀ (lg:ah) (qF:List dM) {aV:aG} {eG:Int},iT lg qF=some (aV,eG)→∀ {τ:List bA} {Q:eT→List bA→Prop} (h:Q (.ret (.tuple [.agg (eO aV),iP eG])) τ),PC 86 [.agg (bn lg),.list (List.map dM.cells qF)] τ Q
abbrev Fu (l5:List ah→List dM→Option (List aG × Int)):Prop:=∀ (XB:List ah) (qF:List dM) {aV:List aG} {eG:Int},l5 XB qF=some (aV,eG)→∀ {τ:List bA} {Q:eT→List bA→Prop} (h:Q (.ret (.tuple [.list (aG.bR aV),iP eG])) τ),PC 146 [.list (ah.bR XB),.list (List.map dM.cells qF)] τ Q
theorem P5 (iT) (EH:Dk iT) (l5) (Gc:Fu l5) (e1:ah) (gF:List dM) {r0:aG} {r1:Int} (hf:Da iT l5 e1 gF=some (r0,r1)) (h:Q (.ret (.tuple [.agg (eO r0),iP r1])) τ):PC 86 [.agg (bn e1),.list (List.map dM.cells gF)] τ Q:=by
 unfold Da at hf; refine BN 110 [.cell 4 63,.tmp 5] [0,1] Tryz.func86 Z Z Z Z Z (W 1 Z (AS Z (AO.aN Z yB (fun b4=>(J 4 Z (C hf Z (fun h1 hf=>?_) fun h1 hf=>?_))))))
 · exact bI hf
 obtain ⟨iK,f1,h2,hf⟩:=dX hf; refine W 3 Z (CL Z (Gc _ _ h2 (J 7 Z (C hf Z (fun h3 hf=>?_) fun h3 hf=>?_))))
 · cases hf; exact Wx 4 [0] Z Z (ZC [0] Z Z h)
 refine V 4 Z (C hf Z (fun h4 hf=>?_) fun h4 hf=>?_)
 · refine B1 hf fun x1 h5 hf=>W 2 Z (CL Z (Tj _ h5 ?_)); cases hf; exact Rx 2 [0] Z Z (ZC [0] Z Z h)
 refine V 2 Z (C hf Z (fun h6 hf=>?_) fun h6 hf=>?_)
 · replace hf:=(FR _).trans hf; obtain ⟨x2,x3,h7,hf⟩:=dX hf; refine W 3 Z (CL Z (JE _ _ h7 ?_)); cases hf; exact Rx 4 [0] Z Z (ZC [0] Z Z h)
 refine V 2 Z (C hf Z (fun h8 hf=>?_) fun h8 hf=>?_)
 · exact bI hf
 refine V 2 Z (C hf Z (fun h9 hf=>?_) fun h9 hf=>?_)
 · exact bI hf
 refine V 2 Z (C hf Z (fun h10 hf=>?_) fun h10 hf=>?_)
 · exact bI hf
 refine V 2 Z (C hf Z (fun h11 hf=>?_) fun h11 hf=>?_)
 ·
  refine V 0 Z (AW.draw 11 mixed (by kernel_rfl) Z ?_); refine Ev.cs bL 3 Z ?_; refine B1 hf fun e2 h12 hf=>Ev.cons Z Z Z (AO.bF h12 Z Z (aG.aO _) Z Pt (aG.aP _) Z zg) (Ev.cs bL 2 Z ?_); refine B1 hf fun e3 kL hf=>Ev.cons Z Z Z (AO.bF kL Z Z (aG.aO _) Z Pt (aG.aP _) Z zg) (Ev.cs bL 1 Z ?_); replace hf:=(FR _).trans hf; obtain ⟨x4,x5,lD,hf⟩:=dX hf; refine Ev.cons Z Z Z (AO.call Z _ Z Z ace (NC _ _ _ lD zg)) (Ev.cs bL 2 Z (Ev.nil ?_)); show AR _ _ _ _ _ _ _ _; cases hf; exact Rx 2 [0] Z Z (ZC [0] Z Z h)
 refine V 2 Z (C hf Z (fun nT hf=>?_) fun nT hf=>?_)
 · exact bI hf
 refine V 2 Z (C hf Z (fun h16 hf=>?_) fun h16 hf=>?_)
 · exact bI hf
 exact bI hf
theorem RG (iT) (EH:Dk iT) (l5) (Gc:Fu l5) (l1:List ah) (gF:List dM) {r0:List aG} {r1:Int} (hf:ES iT l5 l1 gF=some (r0,r1)) (h:Q (.ret (.tuple [.list (aG.bR r0),iP r1])) τ):PC 146 [.list (ah.bR l1),.list (List.map dM.cells gF)] τ Q:=by
 unfold ES at hf; refine BN 32 [.tmp 4,.tmp 5] [0,1] Tryz.func146 Z Z Z Z Z (W 0 Z (AS Z (AO.fq Z Z (U 3 Z (AS Z (AO.aU (l:=l1) Z Z Z Z iI Z (ah.aO _) (J 1 Z (AW.row 2 63 (LK3 (fun dF v1 x1=>[(1,.list (List.map dM.cells gF)),(6,.own v1 (aG.bR dF)),(11,.list (ah.bR l1)),(12,iP (l1.length:Int)),(13,iP x1)]) (fun dF v1 x1=>[.row v1 (aG.bR dF).length 2 63]) (fun dA dF v1 x1=>yT iT l1 gF dA dF x1=some (r0,r1)) BIG [] (.slice none 0 0) 0 Z Z hf (fun _ _ _ hz=>bI hz) ?_))))))))); intro dA dF v1 x1 hf; rw [yT] at hf; refine V 1 Z (C hf Z (fun h1 hf=>?_) fun h1 hf=>?_)
 ·
  refine B1 hf fun e1 h2 hf=>W 0 Z (AS Z (AO.bF h2 Z Z (ah.aO _) Z iI (ah.aP _) Z (U 1 Z (AS Z (AO.aN Z iq (fun b8=>?_)))))); obtain ⟨x2,f1,h3,hf⟩:=dX hf; refine Rr 3 [0,0] Z Z (CL Z (EH _ _ h3 (U 3 Z (AS Z (AO.aN Z yB (fun b9=>(Rw 4 [0] Z Z (C hf Z (fun h4 hf=>?_) fun h4 hf=>?_))))))))
  · refine W 1 Z (AS Z (AO.fq Z Z ?_)); cases hf; exact N 1 Z (Y Z h)
  refine Wr 2 [0] rfl rfl (AS rfl (AO.dw (aG.bR [x2]) rfl aaY rfl rfl rfl (by first | rfl | simp only [List.map,aG.aP,aG.bR]) ?_)); refine B1 hf fun yM h5 hf=>AS Z (AO.lH (i:=2) (l:=dF) (m:=[x2]) h5 Z Z Z Z Z Z Z aaY Pt (aG.aO _) (aG.aO _) (aG.aO _).symm (aG.fu) (aG.cells_one) (by decide) (fun v2 s1 hs1=>?_)); cases hs1; refine dP 3 Z (AR.drop1 (AR.drop1 ?_)); exact N 0 Z ⟨yM,v2,(bV (x1 + 1)),Z,Z,Z,hf⟩
 cases hf; exact M 3 Z (Y Z h)
theorem H8 :∀ k:Nat,(Dk (qz k))∧(Fu (sG k)):=by
 intro k
 induction k with
 | zero=>exact ⟨fun _ _ _ _ hz=>by first | cases hz | (unfold qz at hz; cases hz),fun _ _ _ _ hz=>by first | cases hz | (unfold sG at hz; cases hz)⟩
 | succ k ih=>exact ⟨fun lg qF aV eG hz τ Q hq=>P5 (qz k) ih.1 (sG k) ih.2 lg qF hz hq,fun XB qF aV eG hz τ Q hq=>RG (qz k) ih.1 (sG k) ih.2 XB qF hz hq⟩
theorem Ra (lg:ah) (qF:List dM) {aV:aG} {eG:Int} (hf:M5 lg qF=some (aV,eG)) (h:Q (.ret (.tuple [.agg (eO aV),iP eG])) τ):PC 86 [.agg (bn lg),.list (List.map dM.cells qF)] τ Q:=
 ((H8 BIG).1) lg qF hf h
theorem abu (XB:List ah) (qF:List dM) {aV:List aG} {eG:Int} (hf:Xm XB qF=some (aV,eG)) (h:Q (.ret (.tuple [.list (aG.bR aV),iP eG])) τ):PC 146 [.list (ah.bR XB),.list (List.map dM.cells qF)] τ Q:=
 ((H8 BIG).2) XB qF hf h
theorem Rb (e1:ah) (gF:List dM) {r0:aG} {r1:Int} (hf:GU e1 gF=some (r0,r1)) (h:Q (.ret (.tuple [.agg (eO r0),iP r1])) τ):PC 51 [.agg (bn e1),.list (List.map dM.cells gF)] τ Q:=by
 unfold GU at hf; refine BN 35 [.cell 4 63,.tmp 5] [0,1] Tryz.func51 Z Z Z Z Z (W 1 Z (AS Z (AO.aN Z yB (fun b4=>?_)))); refine B1 hf fun f1 h1 hf=>U 2 Z (CL Z (Ke _ h1 (J 3 Z (C hf Z (fun h2 hf=>?_) fun h2 hf=>?_))))
 · cases hf; exact Wx 4 [0] Z Z (ZC [0] Z Z h)
 refine B1 hf fun f2 h3 hf=>W 1 Z (CL Z (pU _ h3 (J 3 Z (C hf Z (fun h4 hf=>?_) fun h4 hf=>?_))))
 · cases hf; exact Wx 4 [0] Z Z (ZC [0] Z Z h)
 obtain ⟨x1,f3,h5,hf⟩:=dX hf; refine W 2 Z (CL Z (Ra _ _ h5 (U 3 Z (AS Z (AO.aN Z yB (fun b8=>(Rw 4 [0] Z Z (C hf Z (fun h6 hf=>?_) fun h6 hf=>?_))))))))
 · cases hf; exact Wx 4 [1] Z Z (ZC [1] Z Z h)
 refine V 0 Z (AW.draw 3 mixed (by kernel_rfl) Z ?_); refine Ev.cons Z Z Z (AO.dW (i:=0) Z Z Z XY Z Z zg) ?_; refine B1 hf fun x2 h7 hf=>Ev.cons Z Z Z (AO.call Z _ Z Z adI (jC _ h7 zg)) ?_; refine B1 hf fun x3 h8 hf=>Ev.cons Z Z Z (AO.call Z _ Z Z adJ (OB _ _ h8 zg)) (Ev.nil ?_); show AR _ _ _ _ _ _ _ _; cases hf; exact Rx 2 [1] Z Z (ZC [1] Z Z h)
section
variable [DU]
theorem E_ (s1:Str) (gF:List dM) {r0:Int} (hf:yP s1 gF=some r0) (h:Q (.ret (iP r0)) τ):PC 21 [.str s1,.list (List.map dM.cells gF)] τ Q:=by
 unfold yP at hf; refine AC.none (AC.L_ 46 [.cell 4 24] [0,1] Tryz.func21 Z Z Z Z Z ?_); obtain ⟨ps1,cZ,nN,h1,hf⟩:=eD hf; refine AW.sr (AR.step Z Z Z (AO.FQ Z Z Z (AR.step Z Z Z (AO.aN Z Va (fun b4=>(AR.nil [0,3,4] Z ?_)))))); refine AW.sr (cs 1 Z (AR.step Z Z Z (AO.call Z _ Z Z aa9 (pV _ h1 (cs 7 Z ?_))))); refine AR.nil [3,4,5,7] Z (AW.seq (AW.sr (cs 2 Z ?_))); refine AR.nil [3,4,5,7,19] Z (AW.cond Z (fun h2=>?_) (fun h2=>?_))
 ·
  cases jV h2 hf; refine AW.sr (cs 1 Z (AR.dx Z Z (AO.eH (i:=0) Z Z Z rP Z Z Z Z Z (AR.nil [4] Z ?_)))); refine AW.ret ?_; exact .inl ⟨rfl,_,⟨_,_,rfl,⟨_,_,0,_,_,rfl,rfl,rP,rfl⟩,rfl⟩,[],List.nil_sublist _,h⟩
 replace hf:=jg h2 hf; refine B1 hf fun zS h3 hf=>?_; refine AW.skip (AW.seq (AW.sr (AR.step Z Z Z (AO.Ca Z Z aaW Z ?_)))); refine AR.step Z Z Z (AO.call Z _ Z Z adQ (Ke _ h3 (cs 1 Z (AR.nil [3,4,5,8] Z (AW.sr ?_))))); refine cs 2 Z (AR.nil [3,4,5,8,24] Z (AW.cond Z (fun h4=>?_) (fun h4=>?_)))
 ·
  cases jV h4 hf; refine AW.sr (cs 1 Z (AR.dx Z Z (AO.eH (i:=0) Z Z Z rP Z Z Z Z Z (AR.nil [4] Z ?_)))); refine AW.ret ?_; exact .inl ⟨rfl,_,⟨_,_,rfl,⟨_,_,0,_,_,rfl,rfl,rP,rfl⟩,rfl⟩,[],List.nil_sublist _,h⟩
 replace hf:=jg h4 hf; refine B1 hf fun s2 h5 hf=>?_; cases hf; refine AW.skip (AW.seq (AW.sr (cs 1 Z ?_))); refine AR.step Z Z Z (AO.call Z _ Z Z aa2 (xX _ (AR.nil [3,4,27] Z (AW.block (AW.LQ (β:=Option Int) (X:=ah) Z aa0 (fun x1=>[.agg (bn x1)]) (fun _=>Z) (by decide) (wz gF) (fun s τ=>τ=[.box b4 [iP (s.getD 0)]]) (fun s=>s.map fun _=>.ret) (s0:=none) (s1:=s2) Z Z ?_ ?_ ?_)))))
 ·
  intro l T' hy τ hT; refine wH l T' (wz gF) hy ps1 h5 hT fun τ' hT'=>?_; exact ⟨⟨_,Z⟩,hT'⟩
 ·
  rintro l s x1 b s3 _ hh rfl; unfold wz at hh; cases s with
  | some e=>cases hh
  | none=>
  refine ⟨Z,?_⟩; obtain ⟨t1,VJ,h6,hh⟩:=dX hh; refine rF.region Z (AR.step Z Z Z (AO.aN Z iq (fun b9=>(AR.dx Z Z (AO.eH (i:=0) Z Z Z iY Z Z Z Z Z (AR.nil [3,4,9] Z ?_)))))); refine ⟨Z,(rF.block (rF.seq (rF.region Z ?_)))⟩; refine AR.step Z Z Z (AO.dW (i:=0) Z Z Z iY Z Z (AR.step Z Z Z (AO.Ca Z Z aaW Z (AR.step Z Z Z (AO.call Z _ Z Z adP (Rb _ _ h6 (cs 3 Z ?_))))))); refine AR.step Z Z Z (AO.aN Z yB (fun b10=>(AR.dx Z Z (AO.eH (i:=0) Z Z Z XY Z Z Z Z Z (cs 1 Z (AR.nil [4,10,11] Z ?_)))))); refine rF.seq (rF.seq (rF.region Z (cs 2 Z ?_))); refine AR.nil [4,10,11,36] Z (rF.cond Z (fun h7=>?_) (fun h7=>?_))
  ·
   cases jV h7 hh; refine rF.seq (rF.region Z (cs 1 Z (AR.dx Z Z (AO.eH (i:=2) Z Z Z rP Z Z Z Z Z ?_)))); refine AR.nil [] Z (rF.ret ?_); exact ⟨Z,⟨_,.cons _ (.cons _ (List.Sublist.refl _)),Z⟩,Z,Z⟩
  replace hh:=jg h7 hh; refine rF.skip (rF.seq (rF.region Z (cs 1 Z ?_))); refine AR.step Z Z Z (AO.dW (i:=0) Z Z Z Gx Z Z (cs 2 Z (AR.or 4 41 45 [4,10] (x:=(t1.kind == 6)) Z Z (fun h8=>?_) (fun h8=>?_) ?_)))
  ·
   refine AR.is 41 h8 Z (cs 1 Z (AR.go Z Z Z Z Z Z (AO.dW (i:=0) Z Z Z Gx Z Z (cs 2 Z ?_)))); refine AR.nil [45,4,10] Z ?_; exact ⟨Z,Z,Z,Z⟩
  ·
   refine AR.is 41 h8 Z (cs 4 Z (AR.nil [45,4,10] Z ?_)); exact ⟨Z,Z,Z,Z⟩
  refine AR.nil [4,45] Z (rF.cond Z (fun h9=>?_) (fun h9=>?_))
  ·
   cases jV h9 hh; refine rF.seq (rF.region Z (AR.dx Z Z (AO.eH (i:=2) Z Z Z rP Z Z Z Z Z (AR.nil [] Z ?_)))); refine rF.ret ?_; exact ⟨Z,⟨_,.cons _ (.cons _ (List.Sublist.refl _)),Z⟩,Z,Z⟩
  ·
   cases jg h9 hh; refine rF.skip ?_; exact ⟨Z,⟨_,.cons _ (.cons _ (List.Sublist.refl _)),Z⟩,Z,Z⟩
 ·
  rintro D _ rfl; cases s2 with
  | some e=>exact .inr ⟨D,_,Z,Z,_,⟨_,_,Z,⟨_,_,0,_,_,Z,Z,rP,Z⟩,Z⟩,[],List.nil_sublist _,h⟩
  | none=>
   show AW _ _ _ _ _ _ _; refine AW.sr (AR.dx Z Z (AO.eH (i:=0) Z Z Z rP Z Z Z Z Z (AR.nil [4] Z (AW.ret ?_)))); exact .inr ⟨D,[_],Z,Z,_,⟨_,_,Z,⟨_,_,0,_,_,Z,Z,rP,Z⟩,Z⟩,[],List.nil_sublist _,h⟩
end
section
variable [DU]
theorem Ka {r0:Bool} (hf:Cb=some r0) (h:Q (.ret (.bool r0)) τ):PC 10 [] τ Q:=by
 unfold Cb at hf; refine BN 136 [.tmp 0] [] Tryz.func10 Z Z Z Z Z (W 1 Z (AS Z (AO.dw (List.map iQ ([36]:List UInt8)) Z Ef Z Z Z Z (AS Z (AO.Cm Z RJ Gw dh Z Z ?_))))); refine B1 hf fun x1 h1 hf=>U 2 Z (AS Z (AO.pY h1 Z Z Z ?_)); refine B1 hf fun x2 h2 hf=>U 1 Z (AS Z (AO.pY h2 Z Z Z ?_)); refine B1 hf fun x3 h3 hf=>AS Z (AO.pY h3 Z Z Z ?_); refine B1 hf fun x4 h4 hf=>CL Z (Nu  h4 ?_); refine B1 hf fun x5 h5 hf=>AS Z (AO.pY h5 Z Z Z ?_); refine B1 hf fun s1 h6 hf=>AS rfl (AO.pY h6 rfl rfl rfl (U 3 rfl (AS rfl (AO.dw (List.map dV.cells [(dV.mk ([120]:Str) (ak.mk 2 false 2 ([]:Str) [] []))]) rfl adz rfl rfl rfl (by first | rfl | simp only [List.map,dV.aP]) ?_)))); obtain ⟨l1,x6,e1,h7,hf⟩:=eD hf; refine U 2 Z (CL Z (pV _ h7 ?_)); obtain ⟨t1,f1,h8,hf⟩:=dX hf; refine U 9 Z (CL Z (KL _ _ h8 ?_)); obtain ⟨n1,g1,h9,hf⟩:=dX hf; refine U 6 Z (CL Z (Nv _ h9 ?_)); refine B1 hf fun x7 h10 hf=>U 5 Z (CL Z (Nu  h10 ?_))
 refine B1 hf fun x8 h11 hf=>AS Z (AO.pY h11 Z Z Z ?_); refine B1 hf fun x9 h12 hf=>AS Z (AO.pY h12 Z Z Z ?_); obtain ⟨JK,cZ,hx1,kL,hf⟩:=eD hf; refine CL Z (pV _ kL (U 10 Z (AR.or 4 55 59 [1,2,4,7,8,9,10,12,13] (x:=((l1.length:Int) != 3)) Z Z (fun lD=>?_) (fun lD=>?_) ?_)))
 · refine Is 55 lD Z (U 1 Z (GO Z (AO.aU (l:=l1) Z Z Z Z nM Z Z ?_))); exact dP 2 Z (En [59,1,2,4,7,8,9,10,12,13] Z)
 · refine Is 55 lD Z ?_; exact dP 4 Z (En [59,1,2,4,7,8,9,10,12,13] Z)
 refine B1 hf fun b1 h16 hf=>U 1 Z (AR.dH 9 60 69 false [1,2,4,7,8,9,10,12,13] b1 Z Z (fun nT=>?_) (fun nT=>?_) ?_)
 · refine IF 60 nT h16 Z fun h16=>?_; refine B1 h16 fun e2 wP h16=>U 1 Z (GO Z (AO.bF wP Z Z Z Z nM (aM.aP _) Z ?_)); refine B1 h16 fun Rs h18 h16=>U 3 Z (GO Z (AO.pY h18 Z Z Z ?_)); refine B1 h16 fun Xz h19 h16=>GO Z (AO.pY h19 Z Z Z ?_); cases h16; exact dP 2 Z (En [69,1,2,4,7,8,9,10,12,13] Z)
 · refine IT 60 nT h16 Z fun h16=>?_; cases h16; exact dP 9 Z (En [69,1,2,4,7,8,9,10,12,13] Z)
 refine B1 hf fun b2 h21 hf=>U 1 Z (AR.dH 6 70 76 false [1,2,4,7,8,9,10,12,13] b2 Z Z (fun h20=>?_) (fun h20=>?_) ?_)
 · refine IF 70 h20 h21 Z fun h21=>?_; refine B1 h21 fun e3 h22 h21=>U 1 Z (GO Z (AO.bF h22 Z Z Z Z nM (aM.aP _) Z ?_)); cases h21; exact dP 4 Z (En [76,1,2,4,7,8,9,10,12,13] Z)
 · refine IT 70 h20 h21 Z fun h21=>?_; cases h21; exact dP 6 Z (En [76,1,2,4,7,8,9,10,12,13] Z)
 refine B1 hf fun b3 Du hf=>U 1 Z (AR.dH 6 77 83 false [1,2,4,7,8,9,10,12,13] b3 Z Z (fun h23=>?_) (fun h23=>?_) ?_)
 · refine IF 77 h23 Du Z fun Du=>?_; refine B1 Du fun e4 IB Du=>U 1 Z (GO Z (AO.bF IB Z Z Z Z nM (aM.aP _) Z ?_)); cases Du; exact dP 4 Z (En [83,1,2,4,7,8,9,10,12,13] Z)
 · refine IT 77 h23 Du Z fun Du=>?_; cases Du; exact dP 6 Z (En [83,1,2,4,7,8,9,10,12,13] Z)
 refine U 1 Z (On 3 84 87 [1,2,4,7,9,10,12,13] (f1 != 0) Z Z Z Z ?_); refine B1 hf fun b4 Ol hf=>U 1 Z (AR.dH 6 88 94 false [2,4,9,10,12,13] b4 Z Z (fun h27=>?_) (fun h27=>?_) ?_)
 · refine IF 88 h27 Ol Z fun Ol=>?_; refine B1 Ol fun ZH W9 Ol=>U 2 Z (GO Z (AO.pY W9 Z Z Z ?_)); refine B1 Ol fun x14 WZ Ol=>GO Z (AO.pY WZ Z Z Z ?_); cases Ol; exact dP 2 Z (En [94,2,4,9,10,12,13] Z)
 · refine IT 88 h27 Ol Z fun Ol=>?_; cases Ol; exact dP 6 Z (En [94,2,4,9,10,12,13] Z)
 refine J 0 Z (C hf Z (fun h31 hf=>?_) fun h31 hf=>?_)
 · cases hf; exact M 1 Z (Y Z h)
 refine W 2 rfl (AS rfl (AO.dw (List.map dM.cells [(dM.mk ([120]:Str) (aG.mk 3 []))]) rfl ady rfl rfl rfl (by first | rfl | simp only [List.map,dM.aP]) ?_)); refine U 4 Z (AR.and 4 100 104 [2,4,9,12,13,14] (x:=((n1.length:Int) == 1)) Z Z (fun h32=>?_) (fun h32=>?_) ?_)
 · refine Is 100 h32 Z (U 1 Z (GO Z (AO.aU (l:=n1) Z Z Z Z iy Z Z ?_))); exact dP 2 Z (En [104,2,4,9,12,13,14] Z)
 · refine Is 100 h32 Z ?_; exact dP 4 Z (En [104,2,4,9,12,13,14] Z)
 refine B1 hf fun b5 F3 hf=>U 1 Z (AR.dH 5 105 110 true [2,4,12,13,14] b5 Z Z (fun Qv=>?_) (fun Qv=>?_) ?_)
 · refine IT 105 Qv F3 Z fun F3=>?_; refine B1 F3 fun e5 Pp F3=>U 1 Z (GO Z (AO.bF Pp Z Z Z Z iy Z Z ?_)); cases F3; exact dP 3 Z (En [110,2,4,12,13,14] Z)
 · refine IF 105 Qv F3 Z fun F3=>?_; cases F3; exact dP 5 Z (En [110,2,4,12,13,14] Z)
 refine U 1 Z (An 3 111 114 [2,4,13,14] (cZ == 6) Z Z Z Z (U 1 Z (An 3 115 118 [2,4,14] (hx1 == 4) Z Z Z Z ?_))); refine B1 hf fun b6 NS hf=>U 1 Z (AR.dH 5 119 124 true [2,14] b6 Z Z (fun XE=>?_) (fun XE=>?_) ?_)
 · refine IT 119 XE NS Z fun NS=>?_; refine B1 NS fun x15 YX NS=>U 1 Z (GO Z (AO.call Z _ Z Z adY (OT _ YX ?_))); cases NS; exact dP 3 Z (En [124,2,14] Z)
 · refine IF 119 XE NS Z fun NS=>?_; cases NS; exact dP 5 Z (En [124,2,14] Z)
 refine B1 hf fun b7 UK hf=>U 1 Z (AR.dH 5 125 130 true [2] b7 Z Z (fun ZK=>?_) (fun ZK=>?_) ?_)
 · refine IT 125 ZK UK Z fun UK=>?_; refine B1 UK fun x16 h43 UK=>U 2 Z (GO Z (AO.call Z _ Z Z aa8 (E_ _ _ h43 ?_))); cases UK; exact dP 2 Z (En [130,2] Z)
 · refine IF 125 ZK UK Z fun UK=>?_; cases UK; exact dP 5 Z (En [130,2] Z)
 refine BR hf fun b8 h45 hf=>?_; refine U 1 Z (AR.dH 4 131 135 true [] b8 Z Z (fun YW=>?_) (fun YW=>?_) ?_)
 · refine IT 131 YW h45 Z fun h45=>?_; refine B1 h45 fun x17 h46 h45=>U 1 Z (GO Z (AO.call Z _ Z Z aa8 (E_ _ _ h46 ?_))); cases h45; exact dP 2 Z (En [135] Z)
 · refine IF 131 YW h45 Z fun h45=>?_; cases h45; exact dP 4 Z (En [135] Z)
 cases hf; exact N 1 Z (Y Z h)
end
theorem Nb (l1:List aM) (c1:UInt8) {r0:List aM} (hf:zD l1 c1=some r0) {v:Value} {Q:eT→List bA→Prop} (h:∀ v',Q (.ret (.val v')) [.buf v' r0.length 12 39 (List.flatMap aM.cells r0)]):
  PC 32 [.val v,.int .u8 (c1.toNat:Int)] [.buf v l1.length 12 39 (List.flatMap aM.cells l1)] Q:=by
 unfold zD at hf
 have hL:l1.length≤Gm:=by
  by_cases hL:l1.length≤Gm
  ·
   exact hL
  ·
   rw [if_neg hL] at hf; cases hf
 rw [if_pos hL] at hf; unfold Gm at hL; refine AC.kS 42 [.tmp 4] [0,1] Tryz.func32 Z Z Z Z Z (AW.sr (cs 1 Z (AR.nil [0,1] Z ?_))); refine AW.seq (AW.sr (cs 1 Z (AR.step Z Z Z (AO.H_ (i:=0) Z Z Z Z nM Z Z ?_)))); refine cs 2 Z (AR.or 8 8 16 [0,1] (x:=uQ l1) Z Z (fun h1=>?_) (fun h1=>?_) ?_)
 ·
  refine AR.is 8 h1 Z ?_; rcases List.eq_nil_or_concat l1 with rfl | ⟨l0,p1,rfl⟩
  ·
   simp at h1
  rw [List.concat_eq_append] at *
  have hj:bV (((l0 ++ [p1]).length:Int) - 1)=(l0.length:Int):=by
   rw [List.length_append,List.length_singleton] at hL ⊢; rw [bB (by omega) (by omega)]; omega
  have YV:(List.flatMap aM.cells l0).length=l0.length * 12:=Ii aM.fu l0; refine cs 2 Z (AR.go Z Z Z Z Z Z (AO.H_ (i:=0) Z Z Z Z nM Z Z (cs 1 Z (AR.go Z Z Z Z Z Z (AO.xg (i:=0) (sz:=12) (j:=bV (((l0 ++ [p1]).length:Int) - 1)) Z Z Z Z nM (by rw [hj]; omega) (by rw [hj]; simp) ?_))))); refine cs 1 Z (AR.go Z Z Z Z Z Z (AO.Pj (i:=0) (p:=.bool p1.Oh) Z Z Z adt ?_ ?_ ?_))
  ·
   rw [hj,Int.toNat_natCast,List.flatMap_append,List.length_append,YV,List.flatMap_cons,List.flatMap_nil,List.append_nil,aM.fu]; omega
  ·
   rw [hj,Int.toNat_natCast,List.flatMap_append,List.drop_append,List.drop_of_length_le (by omega),YV,Nat.add_sub_cancel_left,List.flatMap_cons,aM.aP]; rfl
  refine cs 1 Z (AR.nil [16,0,1] Z ?_); rw [show uQ (l0 ++ [p1])=p1.Oh from by simp [uQ]]; exact ⟨Z,Z,Z,Z⟩
 ·
  refine AR.is 8 h1 Z (cs 8 Z (AR.nil [16,0,1] Z ?_)); exact ⟨Z,Z,Z,Z⟩
 refine AR.nil [0,1,16] Z (AW.cond Z (fun h2=>?_) (fun h2=>?_))
 ·
  obtain ⟨Ic,rfl⟩:=Co (jV h2 hf); refine AW.sr (cs 2 Z (AR.step Z Z Z (AO.dw (List.map iQ ([c1]:List UInt8)) Z Ef Z Z Z Z (AR.step Z Z Z (AO.Cm Z RJ Gw dh Z Z ?_))))); refine AR.step rfl rfl rfl (AO.build rfl KZ Qa rfl (AR.step rfl rfl rfl (AO.dw (List.map aM.cells [(aM.mk [c1] false (ah.mk 0 ([]:Str) (ak.mk 0 false 0 ([]:Str) [] []) [] []))]) rfl JV rfl rfl rfl (by first | rfl | simp only [List.map,aM.aP]) ?_)))
  refine AR.step Z Z Z (AO.NM (i:=0) (l2:=List.map aM.cells [(aM.mk [c1] false (ah.mk 0 ([]:Str) (ak.mk 0 false 0 ([]:Str) [] []) [] []))]) Z Z Z Z Z Z Z JV nM (by intro y hy; cases List.mem_singleton.1 hy; exact aM.fu _) (by intro y hy; cases List.mem_singleton.1 hy; exact aM.cells_one _) (by simp only [List.map_cons,List.map_nil,List.length_singleton] at Ic ⊢; unfold Gm at Ic; unfold maxLen; omega) (by simp only [List.map_cons,List.map_nil,List.length_singleton] at Ic ⊢; unfold Gm at Ic; omega) (fun v2 s2 hs2=>?_)); cases hs2; refine cs 1 Z (AR.nil [4] Z (AW.ret ?_)); have hv:=h v2; rw [List.flatMap_append,List.length_append] at hv; exact ⟨rfl,_,⟨_,_,rfl,rfl,rfl⟩,_,List.Sublist.refl _,show Q (.ret (.val v2)) _ by simpa using hv⟩
 ·
  replace hf:=jg h2 hf; refine B1 hf fun t1 h3 hf=>?_; rcases List.eq_nil_or_concat l1 with rfl | ⟨l0,p1,rfl⟩
  ·
   simp at h2
  rw [List.concat_eq_append] at *
  have hj:bV (((l0 ++ [p1]).length:Int) - 1)=(l0.length:Int):=by
   rw [List.length_append,List.length_singleton] at hL ⊢; rw [bB (by omega) (by omega)]; omega
  have YV:(List.flatMap aM.cells l0).length=l0.length * 12:=Ii aM.fu l0; rw [show vJ (l0 ++ [p1])=p1.text from by simp [vJ]] at h3; rw [show Ah (l0 ++ [p1]) t1=l0 ++ [aM.mk t1 p1.Oh p1.expr] from by simp [Ah]] at hf; cases hf; refine AW.skip (AW.seq (AW.draw 15 mixed (by kernel_rfl) Z ?_)); refine Ev.cs bL 2 Z (Ev.cons Z Z Z (AO.H_ (i:=0) Z Z Z Z nM Z Z zg) (Ev.cs bL 3 Z (Ev.cons Z Z Z (AO.H_ (i:=0) Z Z Z Z nM Z Z zg) ?_))); refine Ev.cs bL 1 Z (Ev.cons Z Z Z (AO.xg (i:=0) (sz:=12) (j:=bV (((l0 ++ [p1]).length:Int) - 1)) Z Z Z Z nM (by rw [hj]; omega) (by rw [hj]; simp) zg) ?_); refine Ev.cs bL 1 Z (Ev.cons Z Z Z (AO.Pj (i:=0) (p:=.str p1.text) Z Z Z Uk ?_ ?_ zg) ?_)
  ·
   rw [hj,Int.toNat_natCast,List.flatMap_append,List.length_append,YV,List.flatMap_cons,List.flatMap_nil,List.append_nil,aM.fu]; omega
  ·
   rw [hj,Int.toNat_natCast,List.flatMap_append,List.drop_append,List.drop_of_length_le (by omega),YV,Nat.add_sub_cancel_left,List.flatMap_cons,aM.aP]; rfl
  refine Ev.cs bL 1 Z (Ev.cons Z Z Z (AO.dw (List.map iQ ([c1]:List UInt8)) Z Ef Z Z Z Z zg) (Ev.cons Z Z Z (AO.Cm Z RJ Gw dh Z Z zg) (Ev.cons Z Z Z (AO.pY h3 Z Z Z zg) ?_))); refine Ev.nil ?_; show AR _ _ _ _ _ _ _ _; refine AR.step Z Z Z (AO.xg (i:=0) (sz:=12) (j:=bV (((l0 ++ [p1]).length:Int) - 1)) Z Z Z Z nM (by rw [hj]; omega) (by rw [hj]; simp) ?_); refine cs 1 Z (AR.dx Z Z (AO.Lv (i:=0) (new:=[.str t1]) (cs':=List.flatMap aM.cells (l0 ++ [aM.mk t1 p1.Oh p1.expr])) Z Z Z Uk Z Z Z (by simp) ?_ ?_ Z ?_))
  ·
   rw [hj,Int.toNat_natCast,List.flatMap_append,List.length_append,YV,List.flatMap_cons,List.flatMap_nil,List.append_nil,aM.fu,List.length_singleton]; omega
  ·
   unfold putCells; rw [hj,Int.toNat_natCast,List.flatMap_append,List.flatMap_append,Nat.add_zero,List.take_append_of_le_length (by omega),List.take_of_length_le (by omega),List.drop_append,List.drop_of_length_le (by rw [YV]; omega),YV,Nat.add_sub_cancel_left]; simp [aM.aP]
  refine AR.nil [0] Z (AW.sr (cs 2 Z (AR.nil [4] Z ?_))); refine AW.ret ?_; have hv:=h v; rw [List.length_append] at hv; rw [List.length_append]; exact ⟨rfl,_,⟨_,_,rfl,rfl,rfl⟩,_,List.Sublist.refl _,hv⟩
theorem QY (s1:Str) (cZ:Int) {r0:Int} (hf:Cx s1 cZ=some r0) (h:Q (.ret (iP r0)) τ):PC 66 [.str s1,iP cZ] τ Q:=by
 unfold Cx at hf; refine BN 27 [.tmp 4] [0,1] Tryz.func66 Z Z Z Z Z (V 4 Z (FT (fun at2=>[(0,.str s1),(1,iP at2)]) (fun at2=>[]) (fun dA at2=>oV s1 dA at2=some r0) BIG (bV (cZ + 1)) Z Z hf (fun _ hz=>bI hz) ?_)); intro dA at2 hf; rw [oV] at hf; refine W 2 Z (AS Z (AO.bZ Z Z Z Z dh Z ?_)); refine B1 hf fun b1 h2 hf=>U 2 Z (AR.dH 5 11 16 true [0,1] b1 Z Z (fun h1=>?_) (fun h1=>?_) ?_)
 · refine IT 11 h1 h2 Z fun h2=>?_; refine B1 h2 fun x1 h3 h2=>U 2 Z (GO Z (AO.dB h3 Z dh Z Z ?_)); cases h2; exact dP 2 Z (En [16,0,1] Z)
 · refine IF 11 h1 h2 Z fun h2=>?_; cases h2; exact dP 5 Z (En [16,0,1] Z)
 refine J 0 Z (C hf Z (fun h4 hf=>?_) fun h4 hf=>?_)
 ·
  refine B1 hf fun x2 h5 hf=>W 2 Z (AS Z (AO.dB h5 Z dh Z Z (J 1 Z (C hf Z (fun h6 hf=>?_) fun h6 hf=>?_))))
  · exact M 6 Z ⟨(bV ((bV (at2 + 1)) + 1)),Z,Z,Z,hf⟩
  exact M 3 Z ⟨(bV (at2 + 1)),Z,Z,Z,hf⟩
 cases hf; exact M 3 Z (Y Z h)
theorem OC (s1:Str) (cZ:Int) {r0:Int} (hf:Ai s1 cZ=some r0) (h:Q (.ret (iP r0)) τ):PC 33 [.str s1,iP cZ] τ Q:=by
 unfold Ai at hf; refine BN 31 [.tmp 4] [0,1] Tryz.func33 Z Z Z Z Z (V 2 Z (Rk (fun at2 eY=>[(0,.str s1),(1,iP at2),(5,iP eY)]) (fun at2 eY=>[]) (fun dA at2 eY=>jq s1 dA at2 eY=some r0) BIG cZ 0 Z Z hf (fun _ _ hz=>bI hz) ?_)); intro dA at2 eY hf; rw [jq] at hf; refine W 2 Z (AS Z (AO.bZ Z Z Z Z dh Z (J 1 Z (C hf Z (fun h1 hf=>?_) fun h1 hf=>?_))))
 ·
  refine B1 hf fun x1 h2 hf=>W 2 Z (AS Z (AO.dB h2 Z dh Z Z (J 2 Z (C hf Z (fun h3 hf=>?_) fun h3 hf=>?_))))
  · refine B1 hf fun at3 h4 hf=>W 2 Z (CL Z (QY _ _ h4 ?_)); exact N 1 Z ⟨at3,eY,Z,Z,Z,hf⟩
  refine V 2 Z (C hf Z (fun h5 hf=>?_) fun h5 hf=>?_)
  · exact M 6 Z ⟨(bV (at2 + 1)),(bV (eY + 1)),Z,Z,Z,hf⟩
  refine V 2 Z (C hf Z (fun h6 hf=>?_) fun h6 hf=>?_)
  ·
   refine V 2 Z (C hf Z (fun h7 hf=>?_) fun h7 hf=>?_)
   · cases hf; exact M 2 Z (Y Z h)
   exact M 6 Z ⟨(bV (at2 + 1)),(bV (eY - 1)),Z,Z,Z,hf⟩
  exact M 3 Z ⟨(bV (at2 + 1)),eY,Z,Z,Z,hf⟩
 cases hf; exact M 1 Z (Y Z h)
theorem uG (bN:Str) (cZ:Int) {r0:Int} (hf:ou bN cZ=some r0) (h:Q (.ret (iP r0)) τ):PC 103 [.str bN,iP cZ] τ Q:=by
 unfold ou at hf; refine BN 47 [.tmp 4] [0,1] Tryz.func103 Z Z Z Z Z (V 2 Z (Rk (fun at2 xS=>[(0,.str bN),(1,iP at2),(5,.bool xS)]) (fun at2 xS=>[]) (fun dA at2 xS=>nD bN dA at2 xS=some r0) BIG cZ false Z Z hf (fun _ _ hz=>bI hz) ?_)); intro dA at2 xS hf; rw [nD] at hf; refine W 2 Z (AS Z (AO.bZ Z Z Z Z dh Z ?_)); refine B1 hf fun b1 h2 hf=>U 2 Z (AR.dH 5 10 15 true [0,1,5] b1 Z Z (fun h1=>?_) (fun h1=>?_) ?_)
 · refine IT 10 h1 h2 Z fun h2=>?_; refine B1 h2 fun x1 h3 h2=>U 2 Z (GO Z (AO.dB h3 Z dh Z Z ?_)); cases h2; exact dP 2 Z (En [15,0,1,5] Z)
 · refine IF 10 h1 h2 Z fun h2=>?_; cases h2; exact dP 5 Z (En [15,0,1,5] Z)
 refine B1 hf fun b2 h5 hf=>U 1 Z (AR.dH 20 16 36 true [0,1,5] b2 Z Z (fun h4=>?_) (fun h4=>?_) ?_)
 ·
  refine IT 16 h4 h5 Z fun h5=>?_; refine B1 h5 fun b3 h7 h5=>U 2 Z (AR.dH 5 18 23 false [0,1,5,16] b3 Z Z (fun h6=>?_) (fun h6=>?_) ?_)
  · refine IF 18 h6 h7 Z fun h7=>?_; refine B1 h7 fun x2 h8 h7=>U 2 Z (GO Z (AO.dB h8 Z dh Z Z ?_)); cases h7; exact dP 2 Z (En [23,0,1,5,16] Z)
  · refine IT 18 h6 h7 Z fun h7=>?_; cases h7; exact dP 5 Z (En [23,0,1,5,16] Z)
  refine B1 h5 fun b4 h10 h5=>U 1 Z (AR.dH 5 24 29 false [0,1,5,16] b4 Z Z (fun h9=>?_) (fun h9=>?_) ?_)
  · refine IF 24 h9 h10 Z fun h10=>?_; refine B1 h10 fun x3 h11 h10=>U 2 Z (GO Z (AO.dB h11 Z dh Z Z ?_)); cases h10; exact dP 2 Z (En [29,0,1,5,16] Z)
  · refine IT 24 h9 h10 Z fun h10=>?_; cases h10; exact dP 5 Z (En [29,0,1,5,16] Z)
  refine BR h5 fun b5 kL h5=>?_; refine U 1 Z (AR.dH 5 30 35 false [0,1,5,16] b5 Z Z (fun h12=>?_) (fun h12=>?_) ?_)
  · refine IF 30 h12 kL Z fun kL=>?_; refine B1 kL fun x4 lD kL=>U 2 Z (GO Z (AO.dB lD Z dh Z Z ?_)); cases kL; exact dP 2 Z (En [35,0,1,5,16] Z)
  · refine IT 30 h12 kL Z fun kL=>?_; cases kL; exact dP 5 Z (En [35,0,1,5,16] Z)
  cases h5; exact dP 1 Z (En [36,0,1,5] Z)
 · refine IF 16 h4 h5 Z fun h5=>?_; cases h5; exact dP 20 Z (En [36,0,1,5] Z)
 refine J 0 Z (C hf Z (fun nT hf=>?_) fun nT hf=>?_)
 ·
  refine B1 hf fun b6 wP hf=>W 2 Z (AR.dH 5 38 43 false [0,1,5] b6 Z Z (fun h16=>?_) (fun h16=>?_) ?_)
  · refine IF 38 h16 wP Z fun wP=>?_; refine B1 wP fun x5 h18 wP=>U 2 Z (GO Z (AO.dB h18 Z dh Z Z ?_)); cases wP; exact dP 2 Z (En [43,0,1,5] Z)
  · refine IT 38 h16 wP Z fun wP=>?_; cases wP; exact dP 5 Z (En [43,0,1,5] Z)
  exact N 4 Z ⟨(bV (at2 + 1)),b6,Z,Z,Z,hf⟩
 cases hf; exact M 2 Z (Y Z h)
theorem vC (c1:UInt8) {r0:Bool} (hf:nS c1=some r0) (h:Q (.ret (.bool r0)) τ):PC 162 [.int .u8 (c1.toNat:Int)] τ Q:=by
 unfold nS at hf; refine BN 9 [.tmp 2] [0] Tryz.func162 Z Z Z Z Z (W 4 Z (An 3 5 8 [] (decide ((c1.toNat:Int)≤57)) Z Z Z Z ?_)); cases hf; exact N 1 Z (Y Z h)
theorem Q5 (bN:Str) (cZ:Int) {r0:Int} (hf:zJ bN cZ=some r0) (h:Q (.ret (iP r0)) τ):PC 247 [.str bN,iP cZ] τ Q:=by
 unfold zJ at hf; refine BN 23 [.tmp 4] [0,1] Tryz.func247 Z Z Z Z Z (V 2 Z (FT (fun n1=>[(0,.str bN),(1,iP cZ),(5,iP n1)]) (fun n1=>[]) (fun dA n1=>qU bN cZ dA n1=some r0) BIG 0 Z Z hf (fun _ hz=>bI hz) ?_)); intro dA n1 hf; rw [qU] at hf; refine W 4 Z (AS Z (AO.bZ Z Z Z Z dh Z ?_)); refine B1 hf fun b1 h2 hf=>U 2 Z (AR.dH 7 12 19 true [0,1,5] b1 Z Z (fun h1=>?_) (fun h1=>?_) ?_)
 · refine IT 12 h1 h2 Z fun h2=>?_; refine B1 h2 fun x1 h3 h2=>U 4 Z (GO Z (AO.dB h3 Z dh Z Z ?_)); refine BR h2 fun x2 h4 h2=>?_; refine GO Z (AO.call Z _ Z Z Uq (vC _ h4 ?_)); cases h2; exact dP 1 Z (En [19,0,1,5] Z)
 · refine IF 12 h1 h2 Z fun h2=>?_; cases h2; exact dP 7 Z (En [19,0,1,5] Z)
 refine J 0 Z (C hf Z (fun h5 hf=>?_) fun h5 hf=>?_)
 · exact M 3 Z ⟨(bV (n1 + 1)),Z,Z,Z,hf⟩
 cases hf; exact M 2 Z (Y Z h)
theorem Im (c1:UInt8) {r0:Bool} (hf:wT c1=some r0) (h:Q (.ret (.bool r0)) τ):PC 161 [.int .u8 (c1.toNat:Int)] τ Q:=by
 unfold wT at hf; refine BN 21 [.tmp 2] [0] Tryz.func161 Z Z Z Z Z (W 4 Z (An 3 5 8 [0] (decide ((c1.toNat:Int)≤122)) Z Z Z Z (U 1 Z (AR.or 7 9 16 [0] (x:=((decide (65≤(c1.toNat:Int))) && (decide ((c1.toNat:Int)≤90)))) Z Z (fun h2=>?_) (fun h2=>?_) ?_))))
 · refine Is 9 h2 Z (U 3 Z (An 3 12 15 [0,9] (decide ((c1.toNat:Int)≤90)) Z Z Z Z ?_)); exact dP 1 Z (En [16,0] Z)
 · refine Is 9 h2 Z ?_; exact dP 7 Z (En [16,0] Z)
 refine U 1 Z (On 3 17 20 [] ((c1.toNat:Int) == 95) Z Z Z Z ?_); cases hf; exact N 1 Z (Y Z h)
theorem Nc (bN:Str) (cZ:Int) {r0:Int} (hf:BM bN cZ=some r0) (h:Q (.ret (iP r0)) τ):PC 176 [.str bN,iP cZ] τ Q:=by
 unfold BM at hf; refine BN 31 [.tmp 4] [0,1] Tryz.func176 Z Z Z Z Z (V 2 Z (FT (fun n1=>[(0,.str bN),(1,iP cZ),(5,iP n1)]) (fun n1=>[]) (fun dA n1=>vk bN cZ dA n1=some r0) BIG 0 Z Z hf (fun _ hz=>bI hz) ?_)); intro dA n1 hf; rw [vk] at hf; refine W 4 Z (AS Z (AO.bZ Z Z Z Z dh Z ?_)); refine B1 hf fun b1 h2 hf=>U 2 Z (AR.dH 15 12 27 true [0,1,5] b1 Z Z (fun h1=>?_) (fun h1=>?_) ?_)
 ·
  refine IT 12 h1 h2 Z fun h2=>?_; refine B1 h2 fun x1 h3 h2=>U 4 Z (GO Z (AO.dB h3 Z dh Z Z ?_)); refine B1 h2 fun x2 h4 h2=>GO Z (AO.call Z _ Z Z ab_ (Im _ h4 ?_)); refine BR h2 fun b2 h6 h2=>?_; refine U 1 Z (AR.dH 7 19 26 false [0,1,5,12] b2 Z Z (fun h5=>?_) (fun h5=>?_) ?_)
  · refine IF 19 h5 h6 Z fun h6=>?_; refine B1 h6 fun x3 h7 h6=>U 4 Z (GO Z (AO.dB h7 Z dh Z Z ?_)); refine BR h6 fun x4 h8 h6=>?_; refine GO Z (AO.call Z _ Z Z Uq (vC _ h8 ?_)); cases h6; exact dP 1 Z (En [26,0,1,5,12] Z)
  · refine IT 19 h5 h6 Z fun h6=>?_; cases h6; exact dP 7 Z (En [26,0,1,5,12] Z)
  cases h2; exact dP 1 Z (En [27,0,1,5] Z)
 · refine IF 12 h1 h2 Z fun h2=>?_; cases h2; exact dP 15 Z (En [27,0,1,5] Z)
 refine J 0 Z (C hf Z (fun h9 hf=>?_) fun h9 hf=>?_)
 · exact M 3 Z ⟨(bV (n1 + 1)),Z,Z,Z,hf⟩
 cases hf; exact M 2 Z (Y Z h)
theorem PD (s1:Str) {r0:Int} {r1:Bool} (hf:wZ s1=some (r0,r1)) (h:Q (.ret (.tuple [iP r0,.bool r1])) τ):PC 248 [.str s1] τ Q:=by
 unfold wZ at hf; refine BN 45 [.tmp 2,.tmp 3] [0] Tryz.func248 Z Z Z Z Z (W 5 Z (AR.or 4 8 12 [0] (x:=(decide (16 < (s1.length:Int)))) Z Z (fun h1=>?_) (fun h1=>?_) ?_))
 · refine Is 8 h1 Z (U 1 Z (GO Z (AO.bZ Z Z Z Z dh Z ?_))); exact dP 2 Z (En [12,0] Z)
 · refine Is 8 h1 Z ?_; exact dP 4 Z (En [12,0] Z)
 refine B1 hf fun b1 h3 hf=>U 1 Z (AR.dH 9 13 22 false [0] b1 Z Z (fun h2=>?_) (fun h2=>?_) ?_)
 ·
  replace h3:=jg h2 h3; refine Is 13 h2 Z (U 1 Z (GO Z (AO.bZ Z Z Z Z dh Z ?_))); refine BR h3 fun b2 h5 h3=>?_; refine U 2 Z (AR.dH 4 17 21 true [0,13] b2 Z Z (fun h4=>?_) (fun h4=>?_) ?_)
  · refine IT 17 h4 h5 Z fun h5=>?_; refine B1 h5 fun x1 h6 h5=>U 1 Z (GO Z (AO.dB h6 Z dh Z Z ?_)); cases h5; exact dP 2 Z (En [21,0,13] Z)
  · refine IF 17 h4 h5 Z fun h5=>?_; cases h5; exact dP 4 Z (En [21,0,13] Z)
  cases h3; exact dP 1 Z (En [22,0] Z)
 · refine IT 13 h2 h3 Z fun h3=>?_; cases h3; exact dP 9 Z (En [22,0] Z)
 refine J 0 Z (C hf Z (fun h7 hf=>?_) fun h7 hf=>?_)
 · cases hf; exact M 2 Z (Y Z h)
 refine V 2 Z (Rk (fun n1 i1=>[(0,.str s1),(4,iP n1),(5,iP i1)]) (fun n1 i1=>[]) (fun dA n1 i1=>rV s1 dA n1 i1=some (r0,r1)) BIG 0 0 Z Z hf (fun _ _ hz=>bI hz) ?_); intro dA n1 i1 hf; rw [rV] at hf; refine W 2 Z (AS Z (AO.bZ Z Z Z Z dh Z (J 1 Z (C hf Z (fun h8 hf=>?_) fun h8 hf=>?_))))
 ·
  refine B1 hf fun x2 h9 hf=>W 2 Z (AS Z (AO.dB h9 Z dh Z Z ?_)); refine B1 hf fun x3 h10 hf=>CL Z (vC _ h10 (J 1 Z (C hf Z (fun h11 hf=>?_) fun h11 hf=>?_)))
  · cases hf; exact M 2 Z (Y Z h)
  refine B1 hf fun x4 h12 hf=>W 4 Z (AS Z (AO.dB h12 Z dh Z Z (AS Z (AO.vB Z Gw N7 Z Z ?_)))); exact N 6 Z ⟨(bV ((bV ((bV (10 * n1)) + (x4.toNat:Int))) - 48)),(bV (i1 + 1)),Z,Z,Z,hf⟩
 cases hf; exact M 5 Z (Y Z h)
theorem Q0 (bN:Str) (cZ:Int) {r0:av} {r1:Int} {r2:Int} (hf:zI bN cZ=some (r0,r1,r2)) (h:Q (.ret (.tuple [.agg (ny r0),iP r1,iP r2])) τ):PC 174 [.str bN,iP cZ] τ Q:=by
 unfold zI at hf; refine BN 50 [.cell 4 116,.tmp 5,.tmp 6] [0,1] Tryz.func174 Z Z Z Z Z (W 0 Z (AS Z (AO.aN Z oQ (fun b4=>?_)))); refine B1 hf fun n1 h1 hf=>U 4 Z (CL Z (Q5 _ _ h1 ?_)); refine B1 hf fun x1 h2 hf=>U 3 Z (CL Z (Nc _ _ h2 ?_)); refine B1 hf fun b1 h4 hf=>U 3 Z (AR.dH 9 18 27 false [0,1,4,7] b1 Z Z (fun h3=>?_) (fun h3=>?_) ?_)
 ·
  refine IF 18 h3 h4 Z fun h4=>?_; refine BR h4 fun b2 h6 h4=>?_; refine U 3 Z (AR.dH 5 21 26 true [0,1,4,7,18] b2 Z Z (fun h5=>?_) (fun h5=>?_) ?_)
  · refine IT 21 h5 h6 Z fun h6=>?_; refine B1 h6 fun x2 h7 h6=>U 2 Z (GO Z (AO.dB h7 Z dh Z Z ?_)); cases h6; exact dP 2 Z (En [26,0,1,4,7,18] Z)
  · refine IF 21 h5 h6 Z fun h6=>?_; cases h6; exact dP 5 Z (En [26,0,1,4,7,18] Z)
  cases h4; exact dP 1 Z (En [27,0,1,4,7] Z)
 · refine IT 18 h3 h4 Z fun h4=>?_; cases h4; exact dP 9 Z (En [27,0,1,4,7] Z)
 refine J 0 Z (C hf Z (fun h8 hf=>?_) fun h8 hf=>?_)
 · cases hf; exact Wx 4 [0] Z Z (ZC [0] Z Z h)
 refine B1 hf fun x3 h9 hf=>W 5 Z (AS Z (AO.mP h9 Z dh Z ⟨_,Z⟩ ⟨_,Z⟩ ?_)); obtain ⟨x4,ok1,h10,hf⟩:=dX hf; refine CL Z (PD _ h10 (J 7 Z (C hf Z (fun h11 hf=>?_) fun h11 hf=>?_)))
 · cases hf; exact Wx 4 [0] Z Z (ZC [0] Z Z h)
 refine B1 hf fun x5 h12 hf=>W 5 Z (AS Z (AO.mP h12 Z dh Z ⟨_,Z⟩ ⟨_,Z⟩ ?_)); cases hf; exact Rx 5 [0] Z Z (ZC [0] Z Z h)
theorem Pz (c1:UInt8) {r0:Int} (hf:FH c1=some r0) (h:Q (.ret (iP r0)) τ):PC 352 [.int .u8 (c1.toNat:Int)] τ Q:=by
 unfold FH at hf; refine BN 26 [.tmp 2] [0] Tryz.func352 Z Z Z Z Z ?_; refine B1 hf fun x1 h1 hf=>W 2 Z (CL Z (vC _ h1 (J 0 Z (C hf Z (fun h2 hf=>?_) fun h2 hf=>?_))))
 · refine W 1 Z (AS Z (AO.vB Z Gw N7 Z Z ?_)); cases hf; exact N 2 Z (Y Z h)
 refine W 3 Z (An 3 10 13 [0] (decide ((c1.toNat:Int)≤102)) Z Z Z Z (J 0 Z (C hf Z (fun h4 hf=>?_) fun h4 hf=>?_)))
 · refine W 1 Z (AS Z (AO.vB Z Gw N7 Z Z ?_)); cases hf; exact N 2 Z (Y Z h)
 refine W 3 Z (An 3 19 22 [0] (decide ((c1.toNat:Int)≤70)) Z Z Z Z (J 0 Z (C hf Z (fun h6 hf=>?_) fun h6 hf=>?_)))
 · refine W 1 Z (AS Z (AO.vB Z Gw N7 Z Z ?_)); cases hf; exact N 2 Z (Y Z h)
 cases hf; exact M 1 Z (Y Z h)
theorem OD (bN:Str) (cZ:Int) {r0:UInt8} {r1:Int} {r2:Int} (hf:xG bN cZ=some (r0,r1,r2)) (h:Q (.ret (.tuple [.int .u8 (r0.toNat:Int),iP r1,iP r2])) τ):PC 316 [.str bN,iP cZ] τ Q:=by
 unfold xG at hf; refine BN 35 [.tmp 4,.tmp 5,.tmp 6] [0,1] Tryz.func316 Z Z Z Z Z (V 7 Z (Rk (fun n1 i1=>[(0,.str bN),(1,iP cZ),(7,iP n1),(8,iP i1)]) (fun n1 i1=>[]) (fun dA n1 i1=>kN bN cZ dA n1 i1=some (r0,r1,r2)) BIG 0 (bV (cZ + 2)) Z Z hf (fun _ _ hz=>bI hz) ?_)); intro dA n1 i1 hf; rw [kN] at hf; refine V 4 Z (C hf Z (fun h1 hf=>?_) fun h1 hf=>?_)
 ·
  refine W 2 Z (AS Z (AO.bZ Z Z Z Z dh Z (J 1 Z (C hf Z (fun h2 hf=>?_) fun h2 hf=>?_))))
  · cases hf; exact M 3 Z (Y Z h)
  refine B1 hf fun x1 h3 hf=>W 2 Z (AS Z (AO.dB h3 Z dh Z Z ?_)); refine B1 hf fun x2 h4 hf=>CL Z (Pz _ h4 (J 1 Z (C hf Z (fun h5 hf=>?_) fun h5 hf=>?_)))
  · cases hf; exact M 3 Z (Y Z h)
  refine B1 hf fun x3 h6 hf=>W 4 Z (AS Z (AO.dB h6 Z dh Z Z ?_)); refine B1 hf fun x4 h7 hf=>CL Z (Pz _ h7 ?_); exact N 5 Z ⟨(bV ((bV (16 * n1)) + x4)),(bV (i1 + 1)),Z,Z,Z,hf⟩
 refine W 1 Z (AS Z (AO.Td Z N7 Gw Z ?_)); cases hf; exact N 3 Z (Y Z h)
theorem KF (bN:Str) (cZ:Int) {r0:UInt8} {r1:Int} {r2:Int} (hf:mY bN cZ=some (r0,r1,r2)) (h:Q (.ret (.tuple [.int .u8 (r0.toNat:Int),iP r1,iP r2])) τ):PC 249 [.str bN,iP cZ] τ Q:=by
 unfold mY at hf; refine BN 46 [.tmp 4,.tmp 5,.tmp 6] [0,1] Tryz.func249 Z Z Z Z Z ?_; refine B1 hf fun x1 h1 hf=>W 5 Z (AS Z (AO.dB h1 Z dh Z Z (J 1 Z (C hf Z (fun h2 hf=>?_) fun h2 hf=>?_))))
 · cases hf; exact M 3 Z (Y Z h)
 refine B1 hf fun x2 h3 hf=>W 2 Z (AS Z (AO.dB h3 Z dh Z Z (J 1 Z (C hf Z (fun h4 hf=>?_) fun h4 hf=>?_))))
 · refine B1 hf fun x3 h5 hf=>W 2 Z (AS Z (AO.dB h5 Z dh Z Z ?_)); cases hf; exact N 3 Z (Y Z h)
 refine W 3 Z (AS Z (AO.bZ Z Z Z Z dh Z (J 1 Z (C hf Z (fun h6 hf=>?_) fun h6 hf=>?_))))
 · cases hf; exact M 3 Z (Y Z h)
 refine B1 hf fun x4 h7 hf=>W 3 Z (AS Z (AO.dB h7 Z dh Z Z (J 2 Z (C hf Z (fun h8 hf=>?_) fun h8 hf=>?_))))
 ·
  refine V 0 Z (AW.cond Z (fun h9=>?_) (fun h9=>?_))
  · refine B1 hf fun x5 h10 hf=>W 3 Z (AS Z (AO.dB h10 Z dh Z Z ?_)); cases hf; exact N 3 Z (Y Z h)
  cases h8.symm.trans h9
 refine V 2 Z (C hf Z (fun h11 hf=>?_) fun h11 hf=>?_)
 · refine B1 hf fun x6 h12 hf=>W 3 Z (AS Z (AO.dB h12 Z dh Z Z ?_)); cases hf; exact N 3 Z (Y Z h)
 refine V 2 Z (C hf Z (fun kL hf=>?_) fun kL hf=>?_)
 · cases hf; exact M 3 Z (Y Z h)
 refine V 2 Z (C hf Z (fun lD hf=>?_) fun lD hf=>?_)
 · cases hf; exact M 3 Z (Y Z h)
 refine V 2 Z (C hf Z (fun nT hf=>?_) fun nT hf=>?_)
 · replace hf:=(pW _).trans hf; obtain ⟨x7,x8,x9,h16,hf⟩:=eD hf; refine W 2 Z (CL Z (OD _ _ h16 ?_)); cases hf; exact N 6 Z (Y Z h)
 cases hf; exact M 3 Z (Y Z h)
theorem U0 (bN:Str) (cZ:Int) {r0:av} {r1:Int} {r2:Int} (hf:Eo bN cZ=some (r0,r1,r2)) (h:Q (.ret (.tuple [.agg (ny r0),iP r1,iP r2])) τ):PC 175 [.str bN,iP cZ] τ Q:=by
 unfold Eo at hf; refine BN 52 [.cell 4 116,.tmp 5,.tmp 6] [0,1] Tryz.func175 Z Z Z Z Z (W 0 Z (AS Z (AO.aN Z oQ (fun b4=>(J 6 Z (AW.row 1 5 (LK3 (fun b1 v1 i1=>[(0,.str bN),(1,iP cZ),(4,pP b4),(7,.own v1 (List.map iQ b1)),(8,iP i1)]) (fun b1 v1 i1=>[.row v1 (List.map iQ b1).length 1 5,.box b4 [iP 0,.str ([]:Str),iP 0]]) (fun dA b1 v1 i1=>vo bN cZ dA b1 i1=some (r0,r1,r2)) BIG [] (.slice none 0 0) (bV (cZ + 1)) Z Z hf (fun _ _ _ hz=>bI hz) ?_))))))); intro dA b1 v1 i1 hf; rw [vo] at hf; refine W 2 Z (AS Z (AO.bZ Z Z Z Z dh Z (J 1 Z (C hf Z (fun h1 hf=>?_) fun h1 hf=>?_))))
 ·
  refine B1 hf fun x1 h2 hf=>W 2 Z (AS Z (AO.dB h2 Z dh Z Z (J 1 Z (C hf Z (fun h3 hf=>?_) fun h3 hf=>?_))))
  ·
   refine W 1 Z (AS Z (AO.aU (l:=b1) Z Z Z Z J8 Z Z (J 1 Z (C hf Z (fun h4 hf=>?_) fun h4 hf=>?_))))
   · cases hf; exact Wx 4 [1] Z Z (ZC [1] Z Z h)
   refine W 1 Z (AS Z (AO.Cm Z RJ Gw dh Z Z ?_)); cases hf; exact Rx 8 [1] Z Z (ZC [1] Z Z h)
  obtain ⟨c1,n1,e1,h5,hf⟩:=eD hf; refine W 2 Z (CL Z (KF _ _ h5 (J 9 Z (C hf Z (fun h6 hf=>?_) fun h6 hf=>?_))))
  · cases hf; exact Wx 5 [1] Z Z (ZC [1] Z Z h)
  refine W 2 Z (AS Z (AO.dw (List.map iQ ([c1]:List UInt8)) Z Ef Z Z Z Z ?_)); refine B1 hf fun b2 h7 hf=>AS Z (AO.lH (i:=0) (l:=b1) (m:=([c1]:List UInt8)) h7 Z Z Z Z Z Z Z Ef J8 Z Z Z (fun _=>Z) (fun _=>Z) (by decide) (fun v2 s1 hs1=>?_)); cases hs1; exact N 5 Z ⟨b2,v2,(bV (i1 + n1)),Z,Z,Z,hf⟩
 cases hf; exact Wx 4 [1] Z Z (ZC [1] Z Z h)
theorem Nf (bN:Str) (cZ:Int) {r0:Int} (hf:vO bN cZ=some r0) (h:Q (.ret (iP r0)) τ):PC 177 [.str bN,iP cZ] τ Q:=by
 unfold vO at hf; refine BN 38 [.tmp 4] [0,1] Tryz.func177 Z Z Z Z Z (V 2 Z (FT (fun i1=>[(0,.str bN),(1,iP cZ),(5,iP i1)]) (fun i1=>[]) (fun dA i1=>gu bN cZ dA i1=some r0) BIG 0 Z Z hf (fun _ hz=>bI hz) ?_)); intro dA i1 hf; rw [gu] at hf; refine V 2 Z (C hf Z (fun h1 hf=>?_) fun h1 hf=>?_)
 ·
  refine V 0 Z (AW.draw 17 mixed (by kernel_rfl) Z ?_); refine Ev.cs bL 3 Z (Ev.cons Z Z Z (AO.bZ Z Z Z Z dh Z zg) (Ev.cs bL 2 Z ?_)); refine B1 hf fun b1 h3 hf=>Ev.dH hKA 11 16 27 true [0,1,5] (.bool b1) Z Z (fun h2=>?_) (fun h2=>?_) ?_
  · replace h3:=jV h2 h3; refine Ev.is WW 16 h2 Z (Ev.cs bL 4 Z ?_); refine B1 h3 fun x1 h4 h3=>Ev.run Z Z Z Z Z Z Z (AO.mP h4 Z dh Z ⟨_,Z⟩ ⟨_,Z⟩ zg) (Ev.cs bL 3 Z ?_); refine B1 h3 fun x2 h5 h3=>Ev.run Z Z Z Z Z Z Z (AO.mP h5 Z dh Z ⟨_,Z⟩ ⟨_,Z⟩ zg) (Ev.cs bL 1 Z ?_); cases h3; refine Ev.cs bL 1 Z ?_; exact Ev.nil (Less.settle (ps:=[27,0,1,5]) Z)
  · replace h3:=jg h2 h3; refine Ev.is WW 16 h2 Z ?_; cases h3; refine Ev.cs bL 11 Z ?_; exact Ev.nil (Less.settle (ps:=[27,0,1,5]) Z)
  refine Ev.nil ?_; show AR _ _ _ _ _ _ _ _; refine J 0 Z (C hf Z (fun h6 hf=>?_) fun h6 hf=>?_)
  · cases hf; exact M 1 Z (Y Z h)
  exact M 3 Z ⟨(bV (i1 + 2)),Z,Z,Z,hf⟩
 refine V 1 Z (FT (fun i2=>[(0,.str bN),(1,iP cZ),(6,iP i2)]) (fun i2=>[]) (fun Mw i2=>gQ bN cZ Mw i2=some r0) BIG 0 Z Z hf (fun _ hz=>bI hz) ?_); intro Mw i2 hf; rw [gQ] at hf; refine V 2 Z (C hf Z (fun h7 hf=>?_) fun h7 hf=>?_)
 ·
  refine V 0 Z (AW.draw 6 mixed (by kernel_rfl) Z ?_); refine Ev.cs bL 2 Z ?_; refine B1 hf fun x3 h8 hf=>Ev.cons Z Z Z (AO.dB h8 Z dh Z Z zg) (Ev.cs bL 1 Z ?_); refine B1 hf fun x4 h9 hf=>Ev.cons Z Z Z (AO.dB h9 Z dh Z Z zg) (Ev.cs bL 1 Z (Ev.nil ?_)); show AR _ _ _ _ _ _ _ _; refine J 0 Z (C hf Z (fun h10 hf=>?_) fun h10 hf=>?_)
  · cases hf; exact M 1 Z (Y Z h)
  exact M 3 Z ⟨(bV (i2 + 1)),Z,Z,Z,hf⟩
 cases hf; exact M 1 Z (Y Z h)
theorem TA (bN:Str) (cZ:Int) {r0:av} {r1:Int} {r2:Int} (hf:BO bN cZ=some (r0,r1,r2)) (h:Q (.ret (.tuple [.agg (ny r0),iP r1,iP r2])) τ):PC 104 [.str bN,iP cZ] τ Q:=by
 unfold BO at hf; refine BN 59 [.cell 4 116,.tmp 5,.tmp 6] [0,1] Tryz.func104 Z Z Z Z Z (W 0 Z (AS Z (AO.aN Z oQ (fun b4=>?_)))); refine B1 hf fun x1 h1 hf=>U 4 Z (AS Z (AO.dB h1 Z dh Z Z ?_)); refine B1 hf fun x2 h2 hf=>CL Z (vC _ h2 (J 0 Z (C hf Z (fun h3 hf=>?_) fun h3 hf=>?_)))
 · replace hf:=(pW _).trans hf; obtain ⟨x3,x4,x5,h4,hf⟩:=eD hf; refine W 2 Z (CL Z (Q0 _ _ h4 ?_)); cases hf; exact Rx 6 [0] Z Z (ZC [0] Z Z h)
 refine B1 hf fun x6 h5 hf=>W 2 Z (AS Z (AO.dB h5 Z dh Z Z (J 1 Z (C hf Z (fun h6 hf=>?_) fun h6 hf=>?_))))
 · replace hf:=(pW _).trans hf; obtain ⟨x7,x8,x9,h7,hf⟩:=eD hf; refine W 2 Z (CL Z (U0 _ _ h7 ?_)); cases hf; exact Rx 6 [0] Z Z (ZC [0] Z Z h)
 refine B1 hf fun n1 h8 hf=>W 2 Z (CL Z (Nc _ _ h8 (J 3 Z (C hf Z (fun h9 hf=>?_) fun h9 hf=>?_))))
 ·
  refine V 2 Z (C hf Z (fun h10 hf=>?_) fun h10 hf=>?_)
  · cases hf; exact Wx 4 [0] Z Z (ZC [0] Z Z h)
  refine B1 hf fun JK h11 hf=>W 5 Z (AS Z (AO.mP h11 Z dh Z ⟨_,Z⟩ ⟨_,Z⟩ ?_)); cases hf; exact Rx 5 [0] Z Z (ZC [0] Z Z h)
 refine B1 hf fun n2 h12 hf=>W 2 Z (CL Z (Nf _ _ h12 (J 3 Z (C hf Z (fun kL hf=>?_) fun kL hf=>?_))))
 · cases hf; exact Wx 4 [0] Z Z (ZC [0] Z Z h)
 refine B1 hf fun Rs lD hf=>W 5 Z (AS Z (AO.mP lD Z dh Z ⟨_,Z⟩ ⟨_,Z⟩ ?_)); cases hf; exact Rx 5 [0] Z Z (ZC [0] Z Z h)
theorem yV (eY:Int) (t1:av) {r0:Int} (hf:qh eY t1=some r0) (h:Q (.ret (iP r0)) τ):PC 105 [iP eY,.agg (ny t1)] τ Q:=by
 unfold qh at hf; refine BN 40 [.tmp 4] [0,1] Tryz.func105 Z Z Z Z Z (W 6 Z (AR.and 9 8 17 [0,3] (x:=((t1.text == ([40]:Str)) || (t1.text == ([91]:Str)))) Z Z (fun h1=>?_) (fun h1=>?_) ?_))
 · refine Is 8 h1 Z (U 4 Z (On 4 12 16 [0,3,8] (t1.text == ([91]:Str)) Z Z Z Z ?_)); exact dP 1 Z (En [17,0,3] Z)
 · refine Is 8 h1 Z ?_; exact dP 9 Z (En [17,0,3] Z)
 refine J 0 Z (C hf Z (fun h3 hf=>?_) fun h3 hf=>?_)
 · cases hf; exact M 3 Z (Y Z h)
 refine W 4 Z (AR.and 9 23 32 [0] (x:=((t1.text == ([41]:Str)) || (t1.text == ([93]:Str)))) Z Z (fun h4=>?_) (fun h4=>?_) ?_)
 · refine Is 23 h4 Z (U 4 Z (On 4 27 31 [0,23] (t1.text == ([93]:Str)) Z Z Z Z ?_)); exact dP 1 Z (En [32,0] Z)
 · refine Is 23 h4 Z ?_; exact dP 9 Z (En [32,0] Z)
 refine U 1 Z (An 3 33 36 [0] (decide (0 < eY)) Z Z Z Z (J 0 Z (C hf Z (fun h7 hf=>?_) fun h7 hf=>?_)))
 · cases hf; exact M 3 Z (Y Z h)
 cases hf; exact M 2 Z (Y Z h)
theorem Q6 (bN:Str) {r0:List av} {r1:Int} {r2:Int} (hf:rU bN=some (r0,r1,r2)) (h:Q (.ret (.tuple [.list (List.map av.cells r0),iP r1,iP r2])) τ):PC 67 [.str bN] τ Q:=by
 unfold rU at hf; refine BN 77 [.tmp 2,.tmp 3,.tmp 4] [0] Tryz.func67 Z Z Z Z Z (W 0 Z (AS Z (AO.fq Z Z (U 3 Z (AS Z (AO.bZ Z Z Z Z dh Z (J 1 Z (C hf Z (fun h1 hf=>?_) fun h1 hf=>?_))))))))
 · refine W 0 Z (AS Z (AO.fq Z Z ?_)); cases hf; exact N 2 Z (Y Z h)
 refine B1 hf fun cZ h2 hf=>W 3 Z (CL Z (uG _ _ h2 (J 1 Z (AW.row 3 116 (LK4 (fun dF v1 eY at2=>[(0,.str bN),(5,.own v1 (List.map av.cells dF)),(6,iP eY),(7,iP at2)]) (fun dF v1 eY at2=>[.row v1 (List.map av.cells dF).length 3 116]) (fun dA dF v1 eY at2=>kK bN dA dF eY at2=some (r0,r1,r2)) BIG [] (.slice none 0 0) 0 cZ Z Z hf (fun _ _ _ _ hz=>bI hz) ?_))))); intro dA dF v1 eY at2 hf; rw [kK] at hf; refine W 2 Z (AS Z (AO.bZ Z Z Z Z dh Z (J 1 Z (C hf Z (fun h3 hf=>?_) fun h3 hf=>?_))))
 ·
  refine W 1 Z (AS Z (AO.aN Z oQ (fun b8=>?_))); refine B1 hf fun x1 h4 hf=>Rr 4 [0] Z Z (AS Z (AO.dB h4 Z dh Z Z (J 1 Z (C hf Z (fun h5 hf=>?_) fun h5 hf=>?_))))
  ·
   obtain ⟨x2,wO,e1,h6,hf⟩:=eD hf; refine W 2 Z (CL Z (TA _ _ h6 (U 4 Z (AS Z (AO.aN Z oQ (fun b10=>(Rw 5 [0] Z Z (C hf Z (fun h7 hf=>?_) fun h7 hf=>?_))))))))
   · refine W 2 Z (AS Z (AO.fq Z Z ?_)); cases hf; exact N 2 Z (Y Z h)
   refine B1 hf fun b1 h9 hf=>Wr 11 [0,1,1,1] Z Z (AR.dH 18 45 63 false [0,5,6,7,8,9] b1 Z Z (fun h8=>?_) (fun h8=>?_) ?_)
   ·
    refine IF 45 h8 h9 Z fun h9=>?_; refine BR h9 fun b2 h11 h9=>?_; refine U 3 Z (AR.dH 14 48 62 true [0,5,6,7,8,9,45] b2 Z Z (fun h10=>?_) (fun h10=>?_) ?_)
    ·
     replace h11:=jV h10 h11; refine Is 48 h10 Z (U 1 Z (GO Z (AO.aU (l:=dF) Z Z Z Z gX Z Z ?_))); refine BR h11 fun b3 kL h11=>?_; refine U 2 Z (AR.dH 9 52 61 false [0,5,6,7,8,9,45,48] b3 Z Z (fun h12=>?_) (fun h12=>?_) ?_)
     · replace kL:=jg h12 kL; refine Is 52 h12 Z (U 2 Z (GO Z (AO.aU (l:=dF) Z Z Z Z gX Z Z ?_))); refine B1 kL fun e2 lD kL=>U 1 Z (GO Z (AO.bF lD Z Z Z Z gX (av.aP _) Z ?_)); cases kL; exact dP 4 Z (En [61,0,5,6,7,8,9,45,48] Z)
     · refine IT 52 h12 kL Z fun kL=>?_; cases kL; exact dP 9 Z (En [61,0,5,6,7,8,9,45,48] Z)
     cases h11; exact dP 1 Z (En [62,0,5,6,7,8,9,45] Z)
    · refine IF 48 h10 h11 Z fun h11=>?_; cases h11; exact dP 14 Z (En [62,0,5,6,7,8,9,45] Z)
    cases h9; exact dP 1 Z (En [63,0,5,6,7,8,9] Z)
   · refine IT 45 h8 h9 Z fun h9=>?_; cases h9; exact dP 18 Z (En [63,0,5,6,7,8,9] Z)
   refine J 0 Z (C hf Z (fun nT hf=>?_) fun nT hf=>?_)
   ·
    refine Wr 2 [1] rfl rfl (AS rfl (AO.dw (List.map av.cells [(av.mk x2.kind x2.text at2)]) rfl Bg rfl rfl rfl (by first | rfl | simp only [List.map,av.aP]) ?_)); refine B1 hf fun yM h16 hf=>AS Z (AO.lH (i:=2) (l:=dF) (m:=[(av.mk x2.kind x2.text at2)]) h16 Z Z Z Z Z Z Z Bg gX Z Z Z (av.fu) (av.cells_one) (by decide) (fun v2 s1 hs1=>?_)); cases hs1; refine B1 hf fun L9 wP hf=>Rr 3 [1] Z Z (CL Z (yV _ _ wP ?_)); refine B1 hf fun at3 h18 hf=>U 5 Z (CL Z (uG _ _ h18 (dP 1 Z (AR.drop1 (AR.drop1 ?_)))))
    exact N 0 Z ⟨yM,v2,L9,at3,Z,Z,Z,hf⟩
   refine B1 hf fun YA h19 hf=>Wr 2 [1] Z Z (CL Z (yV _ _ h19 ?_)); refine B1 hf fun at4 h20 hf=>U 5 Z (CL Z (uG _ _ h20 (dP 1 Z (AR.drop1 (AR.drop1 ?_))))); exact N 0 Z ⟨dF,v1,YA,at4,Z,Z,Z,hf⟩
  refine B1 hf fun b4 h22 hf=>Wr 7 [0,0] Z Z (AR.dH 18 45 63 false [0,5,6,7,8,9] b4 Z Z (fun h21=>?_) (fun h21=>?_) ?_)
  ·
   refine IF 45 h21 h22 Z fun h22=>?_; refine BR h22 fun b5 Du h22=>?_; refine U 3 Z (AR.dH 14 48 62 true [0,5,6,7,8,9,45] b5 Z Z (fun h23=>?_) (fun h23=>?_) ?_)
   ·
    replace Du:=jV h23 Du; refine Is 48 h23 Z (U 1 Z (GO Z (AO.aU (l:=dF) Z Z Z Z gX Z Z ?_))); refine BR Du fun b6 Qw Du=>?_; refine U 2 Z (AR.dH 9 52 61 false [0,5,6,7,8,9,45,48] b6 Z Z (fun IB=>?_) (fun IB=>?_) ?_)
    · replace Qw:=jg IB Qw; refine Is 52 IB Z (U 2 Z (GO Z (AO.aU (l:=dF) Z Z Z Z gX Z Z ?_))); refine B1 Qw fun e3 h27 Qw=>U 1 Z (GO Z (AO.bF h27 Z Z Z Z gX (av.aP _) Z ?_)); cases Qw; exact dP 4 Z (En [61,0,5,6,7,8,9,45,48] Z)
    · refine IT 52 IB Qw Z fun Qw=>?_; cases Qw; exact dP 9 Z (En [61,0,5,6,7,8,9,45,48] Z)
    cases Du; exact dP 1 Z (En [62,0,5,6,7,8,9,45] Z)
   · refine IF 48 h23 Du Z fun Du=>?_; cases Du; exact dP 14 Z (En [62,0,5,6,7,8,9,45] Z)
   cases h22; exact dP 1 Z (En [63,0,5,6,7,8,9] Z)
  · refine IT 45 h21 h22 Z fun h22=>?_; cases h22; exact dP 18 Z (En [63,0,5,6,7,8,9] Z)
  refine J 0 Z (C hf Z (fun Ol hf=>?_) fun Ol hf=>?_)
  ·
   refine Wr 2 [0] rfl rfl (AS rfl (AO.dw (List.map av.cells [(av.mk 5 ([]:Str) at2)]) rfl Bg rfl rfl rfl (by first | rfl | simp only [List.map,av.aP]) ?_)); refine B1 hf fun Sk W9 hf=>AS Z (AO.lH (i:=1) (l:=dF) (m:=[(av.mk 5 ([]:Str) at2)]) W9 Z Z Z Z Z Z Z Bg gX Z Z Z (av.fu) (av.cells_one) (by decide) (fun v3 s2 hs2=>?_)); cases hs2; refine B1 hf fun Yz WZ hf=>Rr 3 [0] Z Z (CL Z (yV _ _ WZ ?_)); refine B1 hf fun at5 h31 hf=>U 5 Z (CL Z (uG _ _ h31 (dP 1 Z (AR.drop1 ?_))))
   exact N 0 Z ⟨Sk,v3,Yz,at5,Z,Z,Z,hf⟩
  refine B1 hf fun Yy h32 hf=>Wr 2 [0] Z Z (CL Z (yV _ _ h32 ?_)); refine B1 hf fun at6 Qv hf=>U 5 Z (CL Z (uG _ _ Qv (dP 1 Z (AR.drop1 ?_)))); exact N 0 Z ⟨dF,v1,Yy,at6,Z,Z,Z,hf⟩
 cases hf; exact M 4 Z (Y Z h)
theorem mJ (iK:List av) (cZ:Int) (s1:Str) {r0:Bool} (hf:pz iK cZ s1=some r0) (h:Q (.ret (.bool r0)) τ):PC 179 [.list (List.map av.cells iK),iP cZ,.str s1] τ Q:=by
 unfold pz at hf; refine BN 28 [.tmp 6] [0,1,2] Tryz.func179 Z Z Z Z Z (W 3 Z (AS Z (AO.aU (l:=iK) Z Z Z Z gX Z Z ?_))); refine B1 hf fun b1 h2 hf=>U 2 Z (AR.dH 7 11 18 true [0,1,2] b1 Z Z (fun h1=>?_) (fun h1=>?_) ?_)
 · refine IT 11 h1 h2 Z fun h2=>?_; refine B1 h2 fun e1 h3 h2=>U 2 Z (GO Z (AO.bF h3 Z Z Z Z gX (av.aP _) Z ?_)); cases h2; exact dP 4 Z (En [18,0,1,2] Z)
 · refine IF 11 h1 h2 Z fun h2=>?_; cases h2; exact dP 7 Z (En [18,0,1,2] Z)
 refine BR hf fun b2 h5 hf=>?_; refine U 1 Z (AR.dH 8 19 27 true [] b2 Z Z (fun h4=>?_) (fun h4=>?_) ?_)
 · refine IT 19 h4 h5 Z fun h5=>?_; refine B1 h5 fun e2 h6 h5=>U 2 Z (GO Z (AO.bF h6 Z Z Z Z gX (av.aP _) Z ?_)); cases h5; exact dP 5 Z (En [27] Z)
 · refine IF 19 h4 h5 Z fun h5=>?_; cases h5; exact dP 8 Z (En [27] Z)
 cases hf; exact N 1 Z (Y Z h)
theorem uF (v1:ak) {r0:ah} (hf:rR v1=some r0) (h:Q (.ret (.agg (bn r0))) τ):PC 385 [.agg (bK v1)] τ Q:=by
 unfold rR at hf; refine BN 5 [.cell 2 37] [0] Tryz.func385 Z Z Z Z Z (W 1 Z (AS Z (AO.aN Z iq (fun b2=>?_)))); cases hf; exact Rx 3 [0] Z Z (ZC [0] Z Z h)
theorem Ng (s1:Str) {r0:Bool} (hf:BP s1=some r0) (h:Q (.ret (.bool r0)) τ):PC 92 [.str s1] τ Q:=by
 unfold BP at hf; refine BN 34 [.tmp 2] [0] Tryz.func92 Z Z Z Z Z (V 2 Z (FT (fun i1=>[(0,.str s1),(3,iP i1)]) (fun i1=>[]) (fun dA i1=>xH s1 dA i1=some r0) BIG 0 Z Z hf (fun _ hz=>bI hz) ?_)); intro dA i1 hf; rw [xH] at hf; refine W 2 Z (AS Z (AO.bZ Z Z Z Z dh Z (J 1 Z (C hf Z (fun h1 hf=>?_) fun h1 hf=>?_))))
 ·
  refine B1 hf fun x1 h2 hf=>W 2 Z (AS Z (AO.dB h2 Z dh Z Z ?_)); refine B1 hf fun x2 h3 hf=>CL Z (Im _ h3 ?_); refine B1 hf fun b1 h5 hf=>U 2 Z (AR.dH 10 15 25 true [0,3] b1 Z Z (fun h4=>?_) (fun h4=>?_) ?_)
  ·
   refine IT 15 h4 h5 Z fun h5=>?_; refine BR h5 fun b2 h7 h5=>?_; refine U 3 Z (AR.dH 6 18 24 false [0,3,15] b2 Z Z (fun h6=>?_) (fun h6=>?_) ?_)
   · refine IF 18 h6 h7 Z fun h7=>?_; refine B1 h7 fun x3 h8 h7=>U 2 Z (GO Z (AO.dB h8 Z dh Z Z ?_)); refine B1 h7 fun x4 h9 h7=>GO Z (AO.call Z _ Z Z Uq (vC _ h9 ?_)); cases h7; exact dP 2 Z (En [24,0,3,15] Z)
   · refine IT 18 h6 h7 Z fun h7=>?_; cases h7; exact dP 6 Z (En [24,0,3,15] Z)
   cases h5; exact dP 1 Z (En [25,0,3] Z)
  · refine IF 15 h4 h5 Z fun h5=>?_; cases h5; exact dP 10 Z (En [25,0,3] Z)
  refine J 0 Z (C hf Z (fun h10 hf=>?_) fun h10 hf=>?_)
  · cases hf; exact M 1 Z (Y Z h)
  exact M 3 Z ⟨(bV (i1 + 1)),Z,Z,Z,hf⟩
 refine W 1 Z (AS Z (AO.bZ Z Z Z Z dh Z (U 2 Z (AR.and 4 29 33 [] (x:=(decide ((s1.length:Int)≤64))) Z Z (fun h11=>?_) (fun h11=>?_) ?_))))
 · refine Is 29 h11 Z (U 1 Z (GO Z (AO.bZ Z Z Z Z dh Z ?_))); exact dP 2 Z (En [33] Z)
 · refine Is 29 h11 Z ?_; exact dP 4 Z (En [33] Z)
 cases hf; exact N 1 Z (Y Z h)
theorem xU (s1:Str) {r0:Bool} (hf:qR s1=some r0) (h:Q (.ret (.bool r0)) τ):PC 55 [.str s1] τ Q:=by
 unfold qR at hf; refine BN 17 [.tmp 2] [0] Tryz.func55 Z Z Z Z Z ?_; refine B1 hf fun x1 h1 hf=>W 2 Z (CL Z (Ng _ h1 (U 1 Z (An 3 5 8 [0] (!(s1 == ([116,114,117,101]:Str))) Z Z Z Z (U 1 Z (An 3 9 12 [0] (!(s1 == ([102,97,108,115,101]:Str))) Z Z Z Z (U 1 Z (An 3 13 16 [] (!(s1 == ([110,117,108,108]:Str))) Z Z Z Z ?_)))))))); cases hf; exact N 1 Z (Y Z h)
theorem Xq (t1:av) {r0:Bool} (hf:Ht t1=some r0) (h:Q (.ret (.bool r0)) τ):PC 432 [.agg (ny t1)] τ Q:=by
 unfold Ht at hf; refine BN 22 [.tmp 2] [0] Tryz.func432 Z Z Z Z Z ?_; refine B1 hf fun b1 h2 hf=>W 6 Z (AR.dH 4 6 10 true [1] b1 Z Z (fun h1=>?_) (fun h1=>?_) ?_)
 · refine IT 6 h1 h2 Z fun h2=>?_; refine BR h2 fun x1 h3 h2=>?_; refine U 2 Z (GO Z (AO.call Z _ Z Z adH (Ng _ h3 ?_))); cases h2; exact dP 1 Z (En [10,1] Z)
 · refine IF 6 h1 h2 Z fun h2=>?_; cases h2; exact dP 4 Z (En [10,1] Z)
 refine U 1 Z (AR.or 10 11 21 [] (x:=((t1.kind == 3) && (decide ((t1.text.length:Int)≤4096)))) Z Z (fun h4=>?_) (fun h4=>?_) ?_)
 ·
  refine Is 11 h4 Z (U 4 Z (AR.and 5 15 20 [11] (x:=(decide ((t1.text.length:Int)≤4096))) Z Z (fun h5=>?_) (fun h5=>?_) ?_))
  · refine Is 15 h5 Z (U 2 Z (GO Z (AO.bZ Z Z Z Z dh Z ?_))); exact dP 2 Z (En [20,11] Z)
  · refine Is 15 h5 Z ?_; exact dP 5 Z (En [20,11] Z)
  exact dP 1 Z (En [21] Z)
 · refine Is 11 h4 Z ?_; exact dP 10 Z (En [21] Z)
 cases hf; exact N 1 Z (Y Z h)
theorem m_ (iK:List av) (cZ:Int) {r0:Int} (hf:lq iK cZ=some r0) (h:Q (.ret (iP r0)) τ):PC 180 [.list (List.map av.cells iK),iP cZ] τ Q:=by
 unfold lq at hf; refine BN 9 [.tmp 4] [0,1] Tryz.func180 Z Z Z Z Z (W 3 Z (AS Z (AO.aU (l:=iK) Z Z Z Z gX Z Z (J 1 Z (C hf Z (fun h1 hf=>?_) fun h1 hf=>?_)))))
 · cases hf; exact M 1 Z (Y Z h)
 cases hf; exact M 1 Z (Y Z h)
theorem E5 (op1:Str) {r0:Int} (hf:sK op1=some r0) (h:Q (.ret (iP r0)) τ):PC 122 [.str op1] τ Q:=by
 unfold sK at hf; refine BN 22 [.tmp 2] [0] Tryz.func122 Z Z Z Z Z (V 4 Z (C hf Z (fun h1 hf=>?_) fun h1 hf=>?_))
 · cases hf; exact M 1 Z (Y Z h)
 refine V 2 Z (C hf Z (fun h2 hf=>?_) fun h2 hf=>?_)
 · cases hf; exact M 1 Z (Y Z h)
 refine V 2 Z (C hf Z (fun h3 hf=>?_) fun h3 hf=>?_)
 ·
  refine V 0 Z (AW.cond Z (fun h4=>?_) (fun h4=>?_))
  · cases hf; exact M 1 Z (Y Z h)
  cases h3.symm.trans h4
 refine V 2 Z (C hf Z (fun h5 hf=>?_) fun h5 hf=>?_)
 ·
  refine V 0 Z (AW.cond Z (fun h6=>?_) (fun h6=>?_))
  · cases hf; exact M 1 Z (Y Z h)
  cases h5.symm.trans h6
 refine V 2 Z (C hf Z (fun h7 hf=>?_) fun h7 hf=>?_)
 ·
  refine V 0 Z (AW.cond Z (fun h8=>?_) (fun h8=>?_))
  · cases hf; exact M 1 Z (Y Z h)
  cases h7.symm.trans h8
 refine V 2 Z (C hf Z (fun h9 hf=>?_) fun h9 hf=>?_)
 ·
  refine V 0 Z (AW.cond Z (fun h10=>?_) (fun h10=>?_))
  · cases hf; exact M 1 Z (Y Z h)
  cases h9.symm.trans h10
 refine V 2 Z (C hf Z (fun h11 hf=>?_) fun h11 hf=>?_)
 ·
  refine V 0 Z (AW.cond Z (fun h12=>?_) (fun h12=>?_))
  · cases hf; exact M 1 Z (Y Z h)
  cases h11.symm.trans h12
 refine V 2 Z (C hf Z (fun kL hf=>?_) fun kL hf=>?_)
 · cases hf; exact M 1 Z (Y Z h)
 refine V 2 Z (C hf Z (fun lD hf=>?_) fun lD hf=>?_)
 ·
  refine V 0 Z (AW.cond Z (fun nT=>?_) (fun nT=>?_))
  · cases hf; exact M 1 Z (Y Z h)
  cases lD.symm.trans nT
 refine V 2 Z (C hf Z (fun h16 hf=>?_) fun h16 hf=>?_)
 · cases hf; exact M 1 Z (Y Z h)
 refine V 2 Z (C hf Z (fun wP hf=>?_) fun wP hf=>?_)
 ·
  refine V 0 Z (AW.cond Z (fun h18=>?_) (fun h18=>?_))
  · cases hf; exact M 1 Z (Y Z h)
  cases wP.symm.trans h18
 refine V 2 Z (C hf Z (fun h19 hf=>?_) fun h19 hf=>?_)
 ·
  refine V 0 Z (AW.cond Z (fun h20=>?_) (fun h20=>?_))
  · cases hf; exact M 1 Z (Y Z h)
  cases h19.symm.trans h20
 refine V 2 Z (C hf Z (fun h21 hf=>?_) fun h21 hf=>?_)
 · cases hf; exact M 1 Z (Y Z h)
 cases hf; exact M 1 Z (Y Z h)
abbrev ku (aY:List av→Int→Option (ah × Int × Int)):Prop:=∀ (fZ:List av) (gq:Int) {aV:ah} {eG:Int} {fI:Int},aY fZ gq=some (aV,eG,fI)→∀ {τ:List bA} {Q:eT→List bA→Prop} (h:Q (.ret (.tuple [.agg (bn aV),iP eG,iP fI])) τ),PC 106 [.list (List.map av.cells fZ),iP gq] τ Q
abbrev kr (bG:List av→Int→Int→Option (ah × Int × Int)):Prop:=∀ (fZ:List av) (gq:Int) (mF:Int) {aV:ah} {eG:Int} {fI:Int},bG fZ gq mF=some (aV,eG,fI)→∀ {τ:List bA} {Q:eT→List bA→Prop} (h:Q (.ret (.tuple [.agg (bn aV),iP eG,iP fI])) τ),PC 178 [.list (List.map av.cells fZ),iP gq,iP mF] τ Q
abbrev oO (dG:List av→Int→Option (ah × Int × Int)):Prop:=∀ (fZ:List av) (gq:Int) {aV:ah} {eG:Int} {fI:Int},dG fZ gq=some (aV,eG,fI)→∀ {τ:List bA} {Q:eT→List bA→Prop} (h:Q (.ret (.tuple [.agg (bn aV),iP eG,iP fI])) τ),PC 250 [.list (List.map av.cells fZ),iP gq] τ Q
abbrev oP (dI:List av→Int→Option (ah × Int × Int)):Prop:=∀ (fZ:List av) (gq:Int) {aV:ah} {eG:Int} {fI:Int},dI fZ gq=some (aV,eG,fI)→∀ {τ:List bA} {Q:eT→List bA→Prop} (h:Q (.ret (.tuple [.agg (bn aV),iP eG,iP fI])) τ),PC 317 [.list (List.map av.cells fZ),iP gq] τ Q
abbrev qD (dR:List av→Int→Option (ah × Int × Int)):Prop:=∀ (fZ:List av) (gq:Int) {aV:ah} {eG:Int} {fI:Int},dR fZ gq=some (aV,eG,fI)→∀ {τ:List bA} {Q:eT→List bA→Prop} (h:Q (.ret (.tuple [.agg (bn aV),iP eG,iP fI])) τ),PC 353 [.list (List.map av.cells fZ),iP gq] τ Q
abbrev qB (dQ:List av→Int→Option (ah × Int × Int)):Prop:=∀ (fZ:List av) (gq:Int) {aV:ah} {eG:Int} {fI:Int},dQ fZ gq=some (aV,eG,fI)→∀ {τ:List bA} {Q:eT→List bA→Prop} (h:Q (.ret (.tuple [.agg (bn aV),iP eG,iP fI])) τ),PC 386 [.list (List.map av.cells fZ),iP gq] τ Q
abbrev qC (dN:List av→Int→Str→Bool→Option (List ah × List Str × Int × Int)):Prop:=∀ (fZ:List av) (gq:Int) (nR:Str) (nQ:Bool) {aV:List ah} {eG:List Str} {fI:Int} {II:Int},dN fZ gq nR nQ=some (aV,eG,fI,II)→∀ {τ:List bA} {Q:eT→List bA→Prop} (h:Q (.ret (.tuple [.list (ah.bR aV),sP eG,iP fI,iP II])) τ),PC 414 [.list (List.map av.cells fZ),iP gq,.str nR,.bool nQ] τ Q
abbrev kW (bW:List av→Int→Option (ah × Int × Int)):Prop:=∀ (fZ:List av) (gq:Int) {aV:ah} {eG:Int} {fI:Int},bW fZ gq=some (aV,eG,fI)→∀ {τ:List bA} {Q:eT→List bA→Prop} (h:Q (.ret (.tuple [.agg (bn aV),iP eG,iP fI])) τ),PC 387 [.list (List.map av.cells fZ),iP gq] τ Q
theorem Kn (aY) (fQ:ku aY) (bG) (iR:kr bG) (dG) (lV:oO dG) (dI) (mZ:oP dI) (dR) (oJ:qD dR) (dQ) (oI:qB dQ) (dN) (lW:qC dN) (bW) (kH:kW bW) (iK:List av) (cZ:Int) {r0:ah} {r1:Int} {r2:Int} (hf:uJ aY bG dG dI dR dQ dN bW iK cZ=some (r0,r1,r2)) (h:Q (.ret (.tuple [.agg (bn r0),iP r1,iP r2])) τ):PC 106 [.list (List.map av.cells iK),iP cZ] τ Q:=by
 unfold uJ at hf; refine BN 66 [.cell 4 37,.tmp 5,.tmp 6] [0,1] Tryz.func106 Z Z Z Z Z (W 0 Z (AS Z (AO.aN Z iq (fun b4=>?_)))); obtain ⟨x1,at2,e1,h1,hf⟩:=eD hf; refine U 4 Z (CL Z (iR _ _ _ h1 (U 4 Z (AS Z (AO.aN Z iq (fun b7=>?_)))))); refine B1 hf fun b1 h3 hf=>Rr 6 [0] Z Z (AR.dH 5 20 25 false [0,1,4,7,8] b1 Z Z (fun h2=>?_) (fun h2=>?_) ?_)
 · refine IF 20 h2 h3 Z fun h3=>?_; refine B1 h3 fun x2 h4 h3=>U 2 Z (GO Z (AO.call Z _ Z Z LX (mJ _ _ _ h4 ?_))); cases h3; exact dP 2 Z (En [25,0,1,4,7,8] Z)
 · refine IT 20 h2 h3 Z fun h3=>?_; cases h3; exact dP 5 Z (En [25,0,1,4,7,8] Z)
 refine J 0 Z (C hf Z (fun h5 hf=>?_) fun h5 hf=>?_)
 · cases hf; exact Wx 6 [0,1] Z Z (ZC [1] Z Z h)
 obtain ⟨x3,at3,e2,h6,hf⟩:=eD hf; refine W 3 Z (CL Z (fQ _ _ h6 (U 4 Z (AS Z (AO.aN Z iq (fun b9=>(Rw 5 [0] Z Z (C hf Z (fun h7 hf=>?_) fun h7 hf=>?_))))))))
 · cases hf; exact Wx 6 [2] Z Z (ZC [2] Z Z h)
 refine B1 hf fun x4 h8 hf=>W 2 Z (CL Z (mJ _ _ _ h8 (J 1 Z (C hf Z (fun h9 hf=>?_) fun h9 hf=>?_))))
 · refine B1 hf fun x5 h10 hf=>W 4 Z (CL Z (m_ _ _ h10 ?_)); cases hf; exact Rx 3 [2] Z Z (ZC [2] Z Z h)
 obtain ⟨x6,at4,e3,h11,hf⟩:=eD hf; refine W 3 rfl (CL rfl (fQ _ _ h11 (U 4 rfl (AS rfl (AO.aN rfl iq (fun b10=>(Rr 6 [0,2,1,0] rfl rfl (AS rfl (AO.dw (ah.bR [x1,x3,x6]) rfl rQ rfl rfl rfl (by first | rfl | simp only [List.map,ah.aP,ah.bR]) ?_))))))))); cases hf; exact Rx 6 [3] Z Z (ZC [3] Z Z h)
theorem Km (aY) (fQ:ku aY) (bG) (iR:kr bG) (dG) (lV:oO dG) (dI) (mZ:oP dI) (dR) (oJ:qD dR) (dQ) (oI:qB dQ) (dN) (lW:qC dN) (bW) (kH:kW bW) (iK:List av) (cZ:Int) (lK:Int) {r0:ah} {r1:Int} {r2:Int} (hf:qG aY bG dG dI dR dQ dN bW iK cZ lK=some (r0,r1,r2)) (h:Q (.ret (.tuple [.agg (bn r0),iP r1,iP r2])) τ):PC 178 [.list (List.map av.cells iK),iP cZ,iP lK] τ Q:=by
 unfold qG at hf; refine BN 92 [.cell 6 37,.tmp 7,.tmp 8] [0,1,2] Tryz.func178 Z Z Z Z Z (W 0 Z (AS Z (AO.aN Z iq (fun b6=>(J 4 Z (C hf Z (fun h1 hf=>?_) fun h1 hf=>?_))))))
 · replace hf:=(pW _).trans hf; obtain ⟨x1,x2,x3,h2,hf⟩:=eD hf; refine W 2 Z (CL Z (lV _ _ h2 ?_)); cases hf; exact Rx 6 [0] Z Z (ZC [0] Z Z h)
 obtain ⟨x4,at2,e1,h3,hf⟩:=eD hf; refine W 4 Z (CL Z (iR _ _ _ h3 (U 4 Z (AS Z (AO.aN Z iq (fun b9=>?_)))))); refine Rw 4 [0] Z Z (LK4 (fun at3 e2 n1 Gb=>[(0,.list (List.map av.cells iK)),(1,iP at3),(2,iP lK),(6,pP b6),(9,pP b9),(10,iP e2),(11,iP n1)]) (fun at3 e2 n1 Gb=>[.box b9 (bn Gb),.box b6 [iP 0,.str ([]:Str),iP 0,.bool false,iP 0,.str ([]:Str),.own (.slice none 0 0) [],.own (.slice none 0 0) [],.own (.slice none 0 0) [],.own (.slice none 0 0) []]]) (fun dA at3 e2 n1 Gb=>jK bG iK lK dA at3 e2 n1 Gb=some (r0,r1,r2)) BIG at2 e1 0 x4 Z Z hf (fun _ _ _ _ hz=>bI hz) ?_); intro dA at3 e2 n1 Gb hf; rw [jK] at hf; refine W 3 Z (AR.and 5 34 39 [0,1,2,6,9,10,11] (x:=(decide (at3 < (iK.length:Int)))) Z Z (fun h4=>?_) (fun h4=>?_) ?_)
 · refine Is 34 h4 Z (U 2 Z (GO Z (AO.aU (l:=iK) Z Z Z Z gX Z Z ?_))); exact dP 2 Z (En [39,0,1,2,6,9,10,11] Z)
 · refine Is 34 h4 Z ?_; exact dP 5 Z (En [39,0,1,2,6,9,10,11] Z)
 refine B1 hf fun b1 h6 hf=>U 1 Z (AR.dH 7 40 47 true [0,1,2,6,9,10,11] b1 Z Z (fun h5=>?_) (fun h5=>?_) ?_)
 · refine IT 40 h5 h6 Z fun h6=>?_; refine B1 h6 fun e3 h7 h6=>U 2 Z (GO Z (AO.bF h7 Z Z Z Z gX (av.aP _) Z ?_)); cases h6; exact dP 4 Z (En [47,0,1,2,6,9,10,11] Z)
 · refine IF 40 h5 h6 Z fun h6=>?_; cases h6; exact dP 7 Z (En [47,0,1,2,6,9,10,11] Z)
 refine B1 hf fun b2 h9 hf=>U 1 Z (AR.dH 9 48 57 true [0,1,2,6,9,10,11] b2 Z Z (fun h8=>?_) (fun h8=>?_) ?_)
 · refine IT 48 h8 h9 Z fun h9=>?_; refine B1 h9 fun e4 h10 h9=>U 2 Z (GO Z (AO.bF h10 Z Z Z Z gX (av.aP _) Z ?_)); refine B1 h9 fun x5 h11 h9=>U 2 Z (GO Z (AO.call Z _ Z Z acs (E5 _ h11 ?_))); cases h9; exact dP 3 Z (En [57,0,1,2,6,9,10,11] Z)
 · refine IF 48 h8 h9 Z fun h9=>?_; cases h9; exact dP 9 Z (En [57,0,1,2,6,9,10,11] Z)
 refine U 1 Z (AR.and 7 58 65 [0,1,2,6,9,10,11] (x:=((n1 == 0) || (lK != 4))) Z Z (fun h12=>?_) (fun h12=>?_) ?_)
 · refine Is 58 h12 Z (U 3 Z (On 3 61 64 [0,1,2,6,9,10,11,58] (lK != 4) Z Z Z Z ?_)); exact dP 1 Z (En [65,0,1,2,6,9,10,11] Z)
 · refine Is 58 h12 Z ?_; exact dP 7 Z (En [65,0,1,2,6,9,10,11] Z)
 refine J 0 Z (C hf Z (fun lD hf=>?_) fun lD hf=>?_)
 ·
  obtain ⟨x6,iZ,f1,nT,hf⟩:=eD hf; refine W 5 Z (CL Z (iR _ _ _ nT (U 4 Z (AS Z (AO.aN Z iq (fun b12=>(Rw 3 [0] Z Z (AW.draw 9 mixed (by kernel_rfl) Z ?_)))))))); refine Ev.cs bL 2 Z ?_; refine B1 hf fun e5 h16 hf=>Ev.cons Z Z Z (AO.bF h16 Z Z Z Z gX (av.aP _) Z zg) (Ev.cs bL 2 Z (Ev.cons Z Z Z (AO.dW (i:=1) Z Z Z iY Z Z zg) (Ev.cons Z Z Z (AO.dW (i:=0) Z Z Z iY Z Z zg) ?_))); refine Ev.cons rfl rfl rfl (AO.dw (ah.bR [Gb,x6]) rfl rQ rfl rfl rfl (by first | rfl | simp only [List.map,ah.aP,ah.bR]) ⟨rfl,rfl⟩) ?_; refine Ev.cons Z Z Z (AO.build Z iq Ed Z zg) (Ev.nil ?_); show AR _ _ _ _ _ _ _ _
  refine Rn 8 [1] Z Z (AR.drop1 (AR.JL 0 Z ?_)); exact N 0 Z ⟨iZ,f1,(bV (n1 + 1)),(ah.mk 7 e5.text (ak.mk 0 false 0 ([]:Str) [] []) [Gb,x6] []),Z,Z,Z,hf⟩
 cases hf; exact Wx 6 [0,1] Z Z (ZC [1] Z Z h)
theorem Ru (aY) (fQ:ku aY) (bG) (iR:kr bG) (dG) (lV:oO dG) (dI) (mZ:oP dI) (dR) (oJ:qD dR) (dQ) (oI:qB dQ) (dN) (lW:qC dN) (bW) (kH:kW bW) (iK:List av) (cZ:Int) {r0:ah} {r1:Int} {r2:Int} (hf:Aj aY bG dG dI dR dQ dN bW iK cZ=some (r0,r1,r2)) (h:Q (.ret (.tuple [.agg (bn r0),iP r1,iP r2])) τ):PC 250 [.list (List.map av.cells iK),iP cZ] τ Q:=by
 unfold Aj at hf; refine BN 44 [.cell 4 37,.tmp 5,.tmp 6] [0,1] Tryz.func250 Z Z Z Z Z (W 0 Z (AS Z (AO.aN Z iq (fun b4=>?_)))); refine B1 hf fun x1 h1 hf=>U 4 Z (CL Z (mJ _ _ _ h1 ?_)); refine B1 hf fun b1 h3 hf=>U 2 Z (AR.dH 5 14 19 true [0,1,4] b1 Z Z (fun h2=>?_) (fun h2=>?_) ?_)
 · refine IT 14 h2 h3 Z fun h3=>?_; refine B1 h3 fun x2 h4 h3=>U 2 Z (GO Z (AO.call Z _ Z Z LX (mJ _ _ _ h4 ?_))); cases h3; exact dP 2 Z (En [19,0,1,4] Z)
 · refine IF 14 h2 h3 Z fun h3=>?_; cases h3; exact dP 5 Z (En [19,0,1,4] Z)
 refine J 0 Z (C hf Z (fun h5 hf=>?_) fun h5 hf=>?_)
 · replace hf:=(pW _).trans hf; obtain ⟨x3,x4,x5,h6,hf⟩:=eD hf; refine W 2 Z (CL Z (mZ _ _ h6 ?_)); cases hf; exact Rx 6 [0] Z Z (ZC [0] Z Z h)
 obtain ⟨x6,iZ,e1,h7,hf⟩:=eD hf; refine W 3 Z (CL Z (lV _ _ h7 (U 4 Z (AS Z (AO.aN Z iq (fun b7=>(Rw 3 [0] Z Z (AW.J9 8 10 12 1 mixed (by kernel_rfl) (by kernel_rfl) (by kernel_rfl) Z Z Z Z ?_)))))))); refine Ev.cs bL 2 Z ?_; refine B1 hf fun e2 h8 hf=>Ev.cons rfl rfl rfl (AO.bF h8 rfl rfl rfl rfl gX (av.aP _) rfl ⟨rfl,rfl⟩) (Ev.cs bL 2 rfl (Ev.cons rfl rfl rfl (AO.dW (i:=0) rfl rfl rfl iY rfl rfl ⟨rfl,rfl⟩) (Ev.cons rfl rfl rfl (AO.dw (ah.bR [x6]) rfl rQ rfl rfl rfl (by first | rfl | simp only [List.map,ah.aP,ah.bR]) ⟨rfl,rfl⟩) ?_)))
 refine Ev.cons Z Z Z (AO.build Z iq Ed Z zg) (Ev.nil ?_); show Ev _ _ _ _ _ _ _; refine Ev.cs bL 2 Z (Ev.nil (TF.dx Z Z (AO.eH (i:=0) Z Z Z iY Z Z Z Z Z (TF.step Z Z Z (AO.calc' Z ?_))))); refine TF.nil ?_; show AR _ _ _ _ _ _ _ _; cases hf; exact N 1 Z (ZC [1] Z Z h)
theorem Rz (aY) (fQ:ku aY) (bG) (iR:kr bG) (dG) (lV:oO dG) (dI) (mZ:oP dI) (dR) (oJ:qD dR) (dQ) (oI:qB dQ) (dN) (lW:qC dN) (bW) (kH:kW bW) (iK:List av) (cZ:Int) {r0:ah} {r1:Int} {r2:Int} (hf:Al aY bG dG dI dR dQ dN bW iK cZ=some (r0,r1,r2)) (h:Q (.ret (.tuple [.agg (bn r0),iP r1,iP r2])) τ):PC 317 [.list (List.map av.cells iK),iP cZ] τ Q:=by
 unfold Al at hf; refine BN 103 [.cell 4 37,.tmp 5,.tmp 6] [0,1] Tryz.func317 Z Z Z Z Z (W 0 Z (AS Z (AO.aN Z iq (fun b4=>?_)))); obtain ⟨x1,at2,e1,h1,hf⟩:=eD hf; refine U 4 Z (CL Z (oJ _ _ h1 (U 4 Z (AS Z (AO.aN Z iq (fun b7=>?_)))))); refine Rw 3 [0] Z Z (Rk (fun at3 x2=>[(0,.list (List.map av.cells iK)),(1,iP at3),(4,pP b4),(7,pP b7),(8,iP e1)]) (fun at3 x2=>[.box b7 (bn x2),.box b4 [iP 0,.str ([]:Str),iP 0,.bool false,iP 0,.str ([]:Str),.own (.slice none 0 0) [],.own (.slice none 0 0) [],.own (.slice none 0 0) [],.own (.slice none 0 0) []]]) (fun dA at3 x2=>mR aY iK e1 dA at3 x2=some (r0,r1,r2)) BIG at2 x1 Z Z hf (fun _ _ hz=>bI hz) ?_); intro dA at3 x2 hf; rw [mR] at hf; refine B1 hf fun b1 h3 hf=>W 3 Z (AR.dH 9 21 30 true [0,1,4,7,8] b1 Z Z (fun h2=>?_) (fun h2=>?_) ?_)
 ·
  refine IT 21 h2 h3 Z fun h3=>?_; refine B1 h3 fun x3 h4 h3=>U 2 Z (GO Z (AO.call Z _ Z Z LX (mJ _ _ _ h4 ?_))); refine BR h3 fun b2 h6 h3=>?_; refine U 1 Z (AR.dH 4 25 29 false [0,1,4,7,8,21] b2 Z Z (fun h5=>?_) (fun h5=>?_) ?_)
  · refine IF 25 h5 h6 Z fun h6=>?_; refine BR h6 fun x4 h7 h6=>?_; refine U 2 Z (GO Z (AO.call Z _ Z Z LX (mJ _ _ _ h7 ?_))); cases h6; exact dP 1 Z (En [29,0,1,4,7,8,21] Z)
  · refine IT 25 h5 h6 Z fun h6=>?_; cases h6; exact dP 4 Z (En [29,0,1,4,7,8,21] Z)
  cases h3; exact dP 1 Z (En [30,0,1,4,7,8] Z)
 · refine IF 21 h2 h3 Z fun h3=>?_; cases h3; exact dP 9 Z (En [30,0,1,4,7,8] Z)
 refine J 0 Z (C hf Z (fun h8 hf=>?_) fun h8 hf=>?_)
 ·
  refine B1 hf fun x5 h9 hf=>W 2 Z (CL Z (mJ _ _ _ h9 (J 0 Z (C hf Z (fun h10 hf=>?_) fun h10 hf=>?_))))
  ·
   refine W 5 Z (AS Z (AO.aU (l:=iK) Z Z Z Z gX Z Z ?_)); refine B1 hf fun b3 h12 hf=>U 2 Z (AR.dH 7 40 47 false [0,1,4,7,8] b3 Z Z (fun h11=>?_) (fun h11=>?_) ?_)
   · refine IF 40 h11 h12 Z fun h12=>?_; refine B1 h12 fun e2 kL h12=>U 2 Z (GO Z (AO.bF kL Z Z Z Z gX (av.aP _) Z ?_)); cases h12; exact dP 4 Z (En [47,0,1,4,7,8] Z)
   · refine IT 40 h11 h12 Z fun h12=>?_; cases h12; exact dP 7 Z (En [47,0,1,4,7,8] Z)
   refine B1 hf fun b4 nT hf=>U 1 Z (AR.dH 8 48 56 false [0,1,4,7,8] b4 Z Z (fun lD=>?_) (fun lD=>?_) ?_)
   · refine IF 48 lD nT Z fun nT=>?_; refine B1 nT fun e3 h16 nT=>U 2 Z (GO Z (AO.bF h16 Z Z Z Z gX (av.aP _) Z ?_)); refine B1 nT fun x6 wP nT=>U 2 Z (GO Z (AO.call Z _ Z Z adO (xU _ wP ?_))); cases nT; exact dP 2 Z (En [56,0,1,4,7,8] Z)
   · refine IT 48 lD nT Z fun nT=>?_; cases nT; exact dP 8 Z (En [56,0,1,4,7,8] Z)
   refine J 0 Z (C hf Z (fun h18 hf=>?_) fun h18 hf=>?_)
   · refine B1 hf fun x7 h19 hf=>W 4 Z (CL Z (m_ _ _ h19 ?_)); cases hf; exact Rx 3 [1] Z Z (ZC [1] Z Z h)
   refine V 0 Z (AW.draw 8 mixed (by kernel_rfl) Z ?_); refine Ev.cs bL 2 Z ?_; refine B1 hf fun e4 h20 hf=>Ev.cons rfl rfl rfl (AO.bF h20 rfl rfl rfl rfl gX (av.aP _) rfl ⟨rfl,rfl⟩) (Ev.cs bL 2 rfl (Ev.cons rfl rfl rfl (AO.dW (i:=0) rfl rfl rfl iY rfl rfl ⟨rfl,rfl⟩) (Ev.cons rfl rfl rfl (AO.dw (ah.bR [x2]) rfl rQ rfl rfl rfl (by first | rfl | simp only [List.map,ah.aP,ah.bR]) ⟨rfl,rfl⟩) ?_))); refine Ev.cons Z Z Z (AO.build Z iq Ed Z zg) (Ev.nil ?_); show AR _ _ _ _ _ _ _ _
   refine Rv 4 [0] Z Z (AW.JL 0 Z ?_); exact M 0 Z ⟨(bV ((bV (at3 + 1)) + 1)),(ah.mk 3 e4.text (ak.mk 0 false 0 ([]:Str) [] []) [x2] []),Z,Z,Z,hf⟩
  obtain ⟨x8,iZ,f1,h21,hf⟩:=eD hf; refine W 3 Z (CL Z (fQ _ _ h21 (U 4 Z (AS Z (AO.aN Z iq (fun b9=>(Rw 5 [0] Z Z (C hf Z (fun h22 hf=>?_) fun h22 hf=>?_))))))))
  · cases hf; exact Wx 6 [2] Z Z (ZC [2] Z Z h)
  refine B1 hf fun x9 h23 hf=>W 2 Z (CL Z (mJ _ _ _ h23 (J 1 Z (C hf Z (fun Du hf=>?_) fun Du hf=>?_))))
  · refine B1 hf fun JK IB hf=>W 4 Z (CL Z (m_ _ _ IB ?_)); cases hf; exact Rx 3 [2] Z Z (ZC [2] Z Z h)
  refine Wr 2 [1,0] rfl rfl (AS rfl (AO.dw (ah.bR [x2,x8]) rfl rQ rfl rfl rfl (by first | rfl | simp only [List.map,ah.aP,ah.bR]) ?_)); refine Rn 5 [1] Z Z (AR.drop1 (AR.JL 0 Z ?_)); exact N 0 Z ⟨(bV (iZ + 1)),(ah.mk 4 ([]:Str) (ak.mk 0 false 0 ([]:Str) [] []) [x2,x8] []),Z,Z,Z,hf⟩
 cases hf; exact Wx 6 [0,1] Z Z (ZC [1] Z Z h)
theorem Uc (aY) (fQ:ku aY) (bG) (iR:kr bG) (dG) (lV:oO dG) (dI) (mZ:oP dI) (dR) (oJ:qD dR) (dQ) (oI:qB dQ) (dN) (lW:qC dN) (bW) (kH:kW bW) (iK:List av) (cZ:Int) {r0:ah} {r1:Int} {r2:Int} (hf:Cy aY bG dG dI dR dQ dN bW iK cZ=some (r0,r1,r2)) (h:Q (.ret (.tuple [.agg (bn r0),iP r1,iP r2])) τ):PC 353 [.list (List.map av.cells iK),iP cZ] τ Q:=by
 unfold Cy at hf; refine BN 66 [.cell 4 37,.tmp 5,.tmp 6] [0,1] Tryz.func353 Z Z Z Z Z (W 0 Z (AS Z (AO.aN Z iq (fun b4=>(U 4 Z (AS Z (AO.aU (l:=iK) Z Z Z Z gX Z Z (J 1 Z (C hf Z (fun h1 hf=>?_) fun h1 hf=>?_)))))))))
 · cases hf; exact Wx 5 [0] Z Z (ZC [0] Z Z h)
 refine B1 hf fun e1 h2 hf=>W 2 Z (AS Z (AO.bF h2 Z Z Z Z gX (av.aP _) Z (U 1 Z (AS Z (AO.aN Z oQ (fun b7=>(Rw 5 [0,0] Z Z (C hf Z (fun h3 hf=>?_) fun h3 hf=>?_))))))))
 ·
  obtain ⟨n1,ok1,h4,hf⟩:=dX hf; refine Wr 2 [0] Z Z (CL Z (PD _ h4 (J 6 Z (C hf Z (fun h5 hf=>?_) fun h5 hf=>?_))))
  · refine B1 hf fun x1 h6 hf=>W 2 Z (CL Z (uF _ h6 ?_)); cases hf; exact Rx 5 [1] Z Z (ZC [1] Z Z h)
  cases hf; exact Wx 5 [1] Z Z (ZC [1] Z Z h)
 refine V 2 Z (C hf Z (fun h7 hf=>?_) fun h7 hf=>?_)
 ·
  refine Wr 2 [0] Z Z (AS Z (AO.bZ Z Z Z Z dh Z (J 1 Z (C hf Z (fun h8 hf=>?_) fun h8 hf=>?_))))
  · refine B1 hf fun x2 h9 hf=>Wr 3 [0] Z Z (CL Z (uF _ h9 ?_)); cases hf; exact Rx 5 [1] Z Z (ZC [1] Z Z h)
  cases hf; exact Wx 5 [1] Z Z (ZC [1] Z Z h)
 refine V 2 Z (C hf Z (fun h10 hf=>?_) fun h10 hf=>?_)
 · replace hf:=(pW _).trans hf; obtain ⟨x3,x4,x5,h11,hf⟩:=eD hf; refine W 2 Z (CL Z (oI _ _ h11 ?_)); cases hf; exact Rx 6 [1] Z Z (ZC [1] Z Z h)
 refine V 2 Z (C hf Z (fun h12 hf=>?_) fun h12 hf=>?_)
 · replace hf:=(pW _).trans hf; obtain ⟨x6,x7,x8,kL,hf⟩:=eD hf; refine W 2 Z (CL Z (kH _ _ kL ?_)); cases hf; exact Rx 6 [1] Z Z (ZC [1] Z Z h)
 cases hf; exact Wx 5 [1] Z Z (ZC [1] Z Z h)
theorem Ua (aY) (fQ:ku aY) (bG) (iR:kr bG) (dG) (lV:oO dG) (dI) (mZ:oP dI) (dR) (oJ:qD dR) (dQ) (oI:qB dQ) (dN) (lW:qC dN) (bW) (kH:kW bW) (iK:List av) (cZ:Int) {r0:ah} {r1:Int} {r2:Int} (hf:zF aY bG dG dI dR dQ dN bW iK cZ=some (r0,r1,r2)) (h:Q (.ret (.tuple [.agg (bn r0),iP r1,iP r2])) τ):PC 386 [.list (List.map av.cells iK),iP cZ] τ Q:=by
 unfold zF at hf; refine BN 61 [.cell 4 37,.tmp 5,.tmp 6] [0,1] Tryz.func386 Z Z Z Z Z (W 0 Z (AS Z (AO.aN Z iq (fun b4=>?_)))); refine B1 hf fun e1 h1 hf=>U 4 Z (AS Z (AO.bF h1 Z Z Z Z gX (av.aP _) Z (J 6 Z (C hf Z (fun h2 hf=>?_) fun h2 hf=>?_))))
 · refine B1 hf fun x1 h3 hf=>W 1 Z (CL Z (uF _ h3 ?_)); cases hf; exact Rx 5 [0] Z Z (ZC [0] Z Z h)
 refine V 2 Z (C hf Z (fun h4 hf=>?_) fun h4 hf=>?_)
 ·
  refine V 0 Z (AW.cond Z (fun h5=>?_) (fun h5=>?_))
  · refine B1 hf fun x2 h6 hf=>W 3 Z (CL Z (uF _ h6 ?_)); cases hf; exact Rx 5 [0] Z Z (ZC [0] Z Z h)
  cases h4.symm.trans h5
 refine V 2 Z (C hf Z (fun h7 hf=>?_) fun h7 hf=>?_)
 · refine B1 hf fun x3 h8 hf=>W 3 Z (CL Z (uF _ h8 ?_)); cases hf; exact Rx 5 [0] Z Z (ZC [0] Z Z h)
 refine B1 hf fun x4 h9 hf=>W 1 Z (CL Z (xU _ h9 (J 1 Z (C hf Z (fun h10 hf=>?_) fun h10 hf=>?_))))
 · cases hf; exact Wx 5 [0] Z Z (ZC [0] Z Z h)
 refine B1 hf fun x5 h11 hf=>W 3 Z (CL Z (mJ _ _ _ h11 (J 1 Z (C hf Z (fun h12 hf=>?_) fun h12 hf=>?_))))
 · cases hf; exact Wx 7 [0] Z Z (ZC [0] Z Z h)
 obtain ⟨l1,x6,iZ,e2,kL,hf⟩:=JF hf; refine W 3 Z (CL Z (lW _ _ _ _ kL ?_)); cases hf; exact Rx 17 [0] Z Z (ZC [0] Z Z h)
theorem Ub (aY) (fQ:ku aY) (bG) (iR:kr bG) (dG) (lV:oO dG) (dI) (mZ:oP dI) (dR) (oJ:qD dR) (dQ) (oI:qB dQ) (dN) (lW:qC dN) (bW) (kH:kW bW) (iK:List av) (cZ:Int) (qM:Str) (uD:Bool) {r0:List ah} {r1:List Str} {r2:Int} {r3:Int} (hf:zG aY bG dG dI dR dQ dN bW iK cZ qM uD=some (r0,r1,r2,r3)) (h:Q (.ret (.tuple [.list (ah.bR r0),sP r1,iP r2,iP r3])) τ):PC 414 [.list (List.map av.cells iK),iP cZ,.str qM,.bool uD] τ Q:=by
 unfold zG at hf; refine BN 95 [.tmp 8,.tmp 9,.tmp 10,.tmp 11] [0,1,2,3] Tryz.func414 Z Z Z Z Z (W 0 Z (AS Z (AO.fq Z Z (AS Z (AO.fq Z Z ?_))))); refine B1 hf fun x1 h1 hf=>U 7 Z (CL Z (mJ _ _ _ h1 (J 0 Z (C hf Z (fun h2 hf=>?_) fun h2 hf=>?_))))
 · cases hf; exact M 8 Z (Y Z h)
 refine V 0 Z (AW.row 10 37 (AW.row 1 9 (LK5 (fun at2 l1 v1 mo v2=>[(0,.list (List.map av.cells iK)),(1,iP at2),(2,.str qM),(3,.bool uD),(12,.own v1 (ah.bR l1)),(13,.own v2 (List.map lI mo))]) (fun at2 l1 v1 mo v2=>[.row v2 (List.map lI mo).length 1 9,.row v1 (ah.bR l1).length 10 37]) (fun dA at2 l1 v1 mo v2=>n_ aY iK qM uD dA at2 l1 mo=some (r0,r1,r2,r3)) BIG cZ [] (.slice none 0 0) [] (.slice none 0 0) Z Z hf (fun _ _ _ _ _ hz=>bI hz) ?_))); intro dA at2 l1 v1 mo v2 hf; rw [n_] at hf; refine V 1 Z (C hf Z (fun h3 hf=>?_) fun h3 hf=>?_)
 ·
  refine W 2 Z (AS Z (AO.aU (l:=iK) Z Z Z Z gX Z Z ?_)); refine B1 hf fun b1 h5 hf=>U 2 Z (AR.dH 7 30 37 false [0,1,2,3,12,13] b1 Z Z (fun h4=>?_) (fun h4=>?_) ?_)
  · refine IF 30 h4 h5 Z fun h5=>?_; refine B1 h5 fun e1 h6 h5=>U 2 Z (GO Z (AO.bF h6 Z Z Z Z gX (av.aP _) Z ?_)); refine B1 h5 fun x2 h7 h5=>U 1 Z (GO Z (AO.call Z _ Z Z abJ (Xq _ h7 ?_))); cases h5; exact dP 2 Z (En [37,0,1,2,3,12,13] Z)
  · refine IT 30 h4 h5 Z fun h5=>?_; cases h5; exact dP 7 Z (En [37,0,1,2,3,12,13] Z)
  refine J 0 Z (C hf Z (fun h8 hf=>?_) fun h8 hf=>?_)
  · refine B1 hf fun x3 h9 hf=>W 3 Z (CL Z (m_ _ _ h9 (AS Z (AO.fq Z Z (AS Z (AO.fq Z Z ?_)))))); cases hf; exact N 2 Z (Y Z h)
  refine B1 hf fun e2 h10 hf=>W 3 Z (AS Z (AO.bF h10 Z Z Z Z gX (av.aP _) Z (U 2 Z (AS Z (AO.dw (List.map lI ([e2.text]:List Str)) Z Ag Z Z Z Z ?_))))); refine B1 hf fun Vz h11 hf=>AS Z (AO.lH (i:=0) (l:=mo) (m:=([e2.text]:List Str)) h11 Z Z Z Z Z Z Z Ag iy Z Z Z (fun _=>Z) (fun _=>Z) (by decide) (fun v3 s1 hs1=>?_)); cases hs1; refine B1 hf fun x4 h12 hf=>U 6 Z (CL Z (mJ _ _ _ h12 (J 1 Z (C hf Z (fun kL hf=>?_) fun kL hf=>?_))))
  · refine B1 hf fun x5 lD hf=>W 3 Z (CL Z (m_ _ _ lD (AS Z (AO.fq Z Z (AS Z (AO.fq Z Z ?_)))))); cases hf; exact N 2 Z (Y Z h)
  obtain ⟨x6,iZ,e3,nT,hf⟩:=eD hf; refine W 5 Z (CL Z (fQ _ _ nT (U 4 Z (AS Z (AO.aN Z iq (fun b14=>(Rw 5 [0] Z Z (C hf Z (fun h16 hf=>?_) fun h16 hf=>?_))))))))
  · refine W 2 Z (AS Z (AO.fq Z Z (AS Z (AO.fq Z Z ?_)))); cases hf; exact N 2 Z (Y Z h)
  refine Wr 2 [0] rfl rfl (AS rfl (AO.dw (ah.bR [x6]) rfl rQ rfl rfl rfl (by first | rfl | simp only [List.map,ah.aP,ah.bR]) ?_)); refine B1 hf fun l2 wP hf=>AS Z (AO.lH (i:=2) (l:=l1) (m:=[x6]) wP Z Z Z Z Z Z Z rQ iI (ah.aO _) (ah.aO _) (ah.aO _).symm (ah.fu) (ah.cells_one) (by decide) (fun v4 s2 hs2=>?_)); cases hs2; refine B1 hf fun x7 h18 hf=>U 4 Z (CL Z (mJ _ _ _ h18 (J 0 Z (C hf Z (fun h19 hf=>?_) fun h19 hf=>?_))))
  · cases hf; exact M 8 Z (Y Z h)
  refine B1 hf fun x8 h20 hf=>W 2 Z (CL Z (mJ _ _ _ h20 (J 1 Z (C hf Z (fun h21 hf=>?_) fun h21 hf=>?_))))
  · refine B1 hf fun x9 h22 hf=>W 3 Z (CL Z (m_ _ _ h22 (AS Z (AO.fq Z Z (AS Z (AO.fq Z Z ?_)))))); cases hf; exact N 2 Z (Y Z h)
  refine Wn0 3 Z (AR.drop1 ?_); exact N 0 Z ⟨(bV (iZ + 1)),l2,v4,Vz,v3,Z,Z,Z,hf⟩
 obtain ⟨JK,yC,e4,h23,hf⟩:=eD hf; refine W 2 Z (CL Z (fQ _ _ h23 (U 4 Z (AS Z (AO.aN Z iq (fun af0=>(Rw 5 [0] Z Z (C hf Z (fun Du hf=>?_) fun Du hf=>?_))))))))
 · refine W 2 Z (AS Z (AO.fq Z Z (AS Z (AO.fq Z Z ?_)))); cases hf; exact N 2 Z (Y Z h)
 refine Wr 2 [0] rfl rfl (AS rfl (AO.dw (ah.bR [JK]) rfl rQ rfl rfl rfl (by first | rfl | simp only [List.map,ah.aP,ah.bR]) ?_)); refine B1 hf fun l3 IB hf=>AS Z (AO.lH (i:=2) (l:=l1) (m:=[JK]) IB Z Z Z Z Z Z Z rQ iI (ah.aO _) (ah.aO _) (ah.aO _).symm (ah.fu) (ah.cells_one) (by decide) (fun v5 s3 hs3=>?_)); cases hs3; refine B1 hf fun Rs Qw hf=>U 4 Z (CL Z (mJ _ _ _ Qw (J 0 Z (C hf Z (fun h27 hf=>?_) fun h27 hf=>?_))))
 · cases hf; exact M 8 Z (Y Z h)
 refine B1 hf fun Xz Ol hf=>W 2 Z (CL Z (mJ _ _ _ Ol (J 1 Z (C hf Z (fun W9 hf=>?_) fun W9 hf=>?_))))
 · refine B1 hf fun ZH WZ hf=>W 3 Z (CL Z (m_ _ _ WZ (AS Z (AO.fq Z Z (AS Z (AO.fq Z Z ?_)))))); cases hf; exact N 2 Z (Y Z h)
 refine Wn0 3 Z (AR.drop1 ?_); exact N 0 Z ⟨(bV (yC + 1)),l3,v5,mo,v2,Z,Z,Z,hf⟩
theorem Lf (aY) (fQ:ku aY) (bG) (iR:kr bG) (dG) (lV:oO dG) (dI) (mZ:oP dI) (dR) (oJ:qD dR) (dQ) (oI:qB dQ) (dN) (lW:qC dN) (bW) (kH:kW bW) (iK:List av) (cZ:Int) {r0:ah} {r1:Int} {r2:Int} (hf:vK aY bG dG dI dR dQ dN bW iK cZ=some (r0,r1,r2)) (h:Q (.ret (.tuple [.agg (bn r0),iP r1,iP r2])) τ):PC 387 [.list (List.map av.cells iK),iP cZ] τ Q:=by
 unfold vK at hf; refine BN 85 [.cell 4 37,.tmp 5,.tmp 6] [0,1] Tryz.func387 Z Z Z Z Z (W 0 Z (AS Z (AO.aN Z iq (fun b4=>?_)))); refine B1 hf fun e1 h1 hf=>U 4 Z (AS Z (AO.bF h1 Z Z Z Z gX (av.aP _) Z (J 4 Z (C hf Z (fun h2 hf=>?_) fun h2 hf=>?_))))
 ·
  obtain ⟨x1,iZ,e2,h3,hf⟩:=eD hf; refine W 3 Z (CL Z (fQ _ _ h3 (U 4 Z (AS Z (AO.aN Z iq (fun b7=>?_)))))); refine B1 hf fun b1 h5 hf=>Rr 6 [0] Z Z (AR.dH 5 35 40 true [0,4,7,8,9] b1 Z Z (fun h4=>?_) (fun h4=>?_) ?_)
  · refine IT 35 h4 h5 Z fun h5=>?_; refine B1 h5 fun x2 h6 h5=>U 2 Z (GO Z (AO.call Z _ Z Z LX (mJ _ _ _ h6 ?_))); cases h5; exact dP 2 Z (En [40,0,4,7,8,9] Z)
  · refine IF 35 h4 h5 Z fun h5=>?_; cases h5; exact dP 5 Z (En [40,0,4,7,8,9] Z)
  refine J 0 Z (C hf Z (fun h7 hf=>?_) fun h7 hf=>?_)
  ·
   refine B1 hf fun e3 h8 hf=>W 2 Z (CL Z (m_ _ _ h8 (J 3 Z (C hf Z (fun h9 hf=>?_) fun h9 hf=>?_))))
   · cases hf; exact Wx 6 [1] Z Z (ZC [1] Z Z h)
   cases hf; exact Wx 6 [0,1] Z Z (ZC [1] Z Z h)
  refine V 2 Z (C hf Z (fun h10 hf=>?_) fun h10 hf=>?_)
  · cases hf; exact Wx 6 [1] Z Z (ZC [1] Z Z h)
  cases hf; exact Wx 6 [0,1] Z Z (ZC [1] Z Z h)
 refine V 2 Z (C hf Z (fun h11 hf=>?_) fun h11 hf=>?_)
 · obtain ⟨l1,x3,yC,e4,h12,hf⟩:=JF hf; refine W 3 Z (CL Z (lW _ _ _ _ h12 ?_)); cases hf; exact Rx 16 [0] Z Z (ZC [0] Z Z h)
 refine V 2 Z (C hf Z (fun kL hf=>?_) fun kL hf=>?_)
 · obtain ⟨l2,mo,aa_,e5,lD,hf⟩:=JF hf; refine W 3 Z (CL Z (lW _ _ _ _ lD ?_)); cases hf; exact Rx 17 [0] Z Z (ZC [0] Z Z h)
 cases hf; exact Wx 5 [0] Z Z (ZC [0] Z Z h)
theorem lu :∀ k:Nat,(ku (b_ k))∧(kr (dn k))∧(oO (fC k))∧(oP (fK k))∧(qD (gV k))∧(qB (iw k))∧(qC (fA k))∧(kW (eX k)):=by
 intro k
 induction k with
 | zero=>exact ⟨fun _ _ _ _ _ hz=>by first | cases hz | (unfold b_ at hz; cases hz),fun _ _ _ _ _ _ hz=>by first | cases hz | (unfold dn at hz; cases hz),fun _ _ _ _ _ hz=>by first | cases hz | (unfold fC at hz; cases hz),fun _ _ _ _ _ hz=>by first | cases hz | (unfold fK at hz; cases hz),fun _ _ _ _ _ hz=>by first | cases hz | (unfold gV at hz; cases hz),fun _ _ _ _ _ hz=>by first | cases hz | (unfold iw at hz; cases hz),fun _ _ _ _ _ _ _ _ hz=>by first | cases hz | (unfold fA at hz; cases hz),fun _ _ _ _ _ hz=>by first | cases hz | (unfold eX at hz; cases hz)⟩
 | succ k ih=>exact ⟨fun fZ gq aV eG fI hz τ Q hq=>Kn (b_ k) ih.1 (dn k) ih.2.1 (fC k) ih.2.2.1 (fK k) ih.2.2.2.1 (gV k) ih.2.2.2.2.1 (iw k) ih.2.2.2.2.2.1 (fA k) ih.2.2.2.2.2.2.1 (eX k) ih.2.2.2.2.2.2.2 fZ gq hz hq,fun fZ gq mF aV eG fI hz τ Q hq=>Km (b_ k) ih.1 (dn k) ih.2.1 (fC k) ih.2.2.1 (fK k) ih.2.2.2.1 (gV k) ih.2.2.2.2.1 (iw k) ih.2.2.2.2.2.1 (fA k) ih.2.2.2.2.2.2.1 (eX k) ih.2.2.2.2.2.2.2 fZ gq mF hz hq,fun fZ gq aV eG fI hz τ Q hq=>Ru (b_ k) ih.1 (dn k) ih.2.1 (fC k) ih.2.2.1 (fK k) ih.2.2.2.1 (gV k) ih.2.2.2.2.1 (iw k) ih.2.2.2.2.2.1 (fA k) ih.2.2.2.2.2.2.1 (eX k) ih.2.2.2.2.2.2.2 fZ gq hz hq,fun fZ gq aV eG fI hz τ Q hq=>Rz (b_ k) ih.1 (dn k) ih.2.1 (fC k) ih.2.2.1 (fK k) ih.2.2.2.1 (gV k) ih.2.2.2.2.1 (iw k) ih.2.2.2.2.2.1 (fA k) ih.2.2.2.2.2.2.1 (eX k) ih.2.2.2.2.2.2.2 fZ gq hz hq,fun fZ gq aV eG fI hz τ Q hq=>Uc (b_ k) ih.1 (dn k) ih.2.1 (fC k) ih.2.2.1 (fK k) ih.2.2.2.1 (gV k) ih.2.2.2.2.1 (iw k) ih.2.2.2.2.2.1 (fA k) ih.2.2.2.2.2.2.1 (eX k) ih.2.2.2.2.2.2.2 fZ gq hz hq,fun fZ gq aV eG fI hz τ Q hq=>Ua (b_ k) ih.1 (dn k) ih.2.1 (fC k) ih.2.2.1 (fK k) ih.2.2.2.1 (gV k) ih.2.2.2.2.1 (iw k) ih.2.2.2.2.2.1 (fA k) ih.2.2.2.2.2.2.1 (eX k) ih.2.2.2.2.2.2.2 fZ gq hz hq,fun fZ gq nR nQ aV eG fI II hz τ Q hq=>Ub (b_ k) ih.1 (dn k) ih.2.1 (fC k) ih.2.2.1 (fK k) ih.2.2.2.1 (gV k) ih.2.2.2.2.1 (iw k) ih.2.2.2.2.2.1 (fA k) ih.2.2.2.2.2.2.1 (eX k) ih.2.2.2.2.2.2.2 fZ gq nR nQ hz hq,fun fZ gq aV eG fI hz τ Q hq=>Lf (b_ k) ih.1 (dn k) ih.2.1 (fC k) ih.2.2.1 (fK k) ih.2.2.2.1 (gV k) ih.2.2.2.2.1 (iw k) ih.2.2.2.2.2.1 (fA k) ih.2.2.2.2.2.2.1 (eX k) ih.2.2.2.2.2.2.2 fZ gq hz hq⟩
theorem KE (fZ:List av) (gq:Int) {aV:ah} {eG:Int} {fI:Int} (hf:Bh fZ gq=some (aV,eG,fI)) (h:Q (.ret (.tuple [.agg (bn aV),iP eG,iP fI])) τ):PC 106 [.list (List.map av.cells fZ),iP gq] τ Q:=
 ((lu BIG).1) fZ gq hf h
theorem XG (fZ:List av) (gq:Int) (mF:Int) {aV:ah} {eG:Int} {fI:Int} (hf:N9 fZ gq mF=some (aV,eG,fI)) (h:Q (.ret (.tuple [.agg (bn aV),iP eG,iP fI])) τ):PC 178 [.list (List.map av.cells fZ),iP gq,iP mF] τ Q:=
 ((lu BIG).2.1) fZ gq mF hf h
theorem abq (fZ:List av) (gq:Int) {aV:ah} {eG:Int} {fI:Int} (hf:Wu fZ gq=some (aV,eG,fI)) (h:Q (.ret (.tuple [.agg (bn aV),iP eG,iP fI])) τ):PC 250 [.list (List.map av.cells fZ),iP gq] τ Q:=
 ((lu BIG).2.2.1) fZ gq hf h
theorem abr (fZ:List av) (gq:Int) {aV:ah} {eG:Int} {fI:Int} (hf:Wv fZ gq=some (aV,eG,fI)) (h:Q (.ret (.tuple [.agg (bn aV),iP eG,iP fI])) τ):PC 317 [.list (List.map av.cells fZ),iP gq] τ Q:=
 ((lu BIG).2.2.2.1) fZ gq hf h
theorem acT (fZ:List av) (gq:Int) {aV:ah} {eG:Int} {fI:Int} (hf:Yi fZ gq=some (aV,eG,fI)) (h:Q (.ret (.tuple [.agg (bn aV),iP eG,iP fI])) τ):PC 353 [.list (List.map av.cells fZ),iP gq] τ Q:=
 ((lu BIG).2.2.2.2.1) fZ gq hf h
theorem acR (fZ:List av) (gq:Int) {aV:ah} {eG:Int} {fI:Int} (hf:Yg fZ gq=some (aV,eG,fI)) (h:Q (.ret (.tuple [.agg (bn aV),iP eG,iP fI])) τ):PC 386 [.list (List.map av.cells fZ),iP gq] τ Q:=
 ((lu BIG).2.2.2.2.2.1) fZ gq hf h
theorem acS (fZ:List av) (gq:Int) (nR:Str) (nQ:Bool) {aV:List ah} {eG:List Str} {fI:Int} {II:Int} (hf:Yh fZ gq nR nQ=some (aV,eG,fI,II)) (h:Q (.ret (.tuple [.list (ah.bR aV),sP eG,iP fI,iP II])) τ):PC 414 [.list (List.map av.cells fZ),iP gq,.str nR,.bool nQ] τ Q:=
 ((lu BIG).2.2.2.2.2.2.1) fZ gq nR nQ hf h
theorem Zf (fZ:List av) (gq:Int) {aV:ah} {eG:Int} {fI:Int} (hf:Qh fZ gq=some (aV,eG,fI)) (h:Q (.ret (.tuple [.agg (bn aV),iP eG,iP fI])) τ):PC 387 [.list (List.map av.cells fZ),iP gq] τ Q:=
 ((lu BIG).2.2.2.2.2.2.2) fZ gq hf h
abbrev Kj (lY:ah→Option Int):Prop:=∀ (lg:ah) {aV:Int},lY lg=some aV→∀ {τ:List bA} {Q:eT→List bA→Prop} (h:Q (.ret (iP aV)) τ),PC 14 [.agg (bn lg)] τ Q
theorem RB (lY) (Oq:Kj lY) (e1:ah) {r0:Int} (hf:Am lY e1=some r0) (h:Q (.ret (iP r0)) τ):PC 14 [.agg (bn e1)] τ Q:=by
 unfold Am at hf; refine BN 21 [.tmp 2] [0] Tryz.func14 Z Z Z Z Z (V 4 Z (Rk (fun n1 i1=>[(1,.ref (bn e1)),(3,iP n1),(4,iP i1)]) (fun n1 i1=>[]) (fun dA n1 i1=>vN lY e1 dA n1 i1=some r0) BIG 1 0 Z Z hf (fun _ _ hz=>bI hz) ?_)); intro dA n1 i1 hf; rw [vN] at hf; refine W 3 Z (AS Z (AO.aU (l:=e1.args) Z Z Z Z iI Z (ah.aO _) (J 1 Z (C hf Z (fun h1 hf=>?_) fun h1 hf=>?_))))
 · refine B1 hf fun e2 h2 hf=>W 4 Z (AS Z (AO.bF h2 Z Z (ah.aO _) Z iI (ah.aP _) Z ?_)); refine B1 hf fun x1 h3 hf=>U 1 Z (CL Z (Oq _ h3 ?_)); exact N 5 Z ⟨(bV (n1 + x1)),(bV (i1 + 1)),Z,Z,Z,hf⟩
 cases hf; exact M 2 Z (Y Z h)
theorem Sy :∀ k:Nat,(Kj (oo k)):=by
 intro k
 induction k with
 | zero=>exact fun _ _ hz=>by first | cases hz | (unfold oo at hz; cases hz)
 | succ k ih=>exact fun lg aV hz τ Q hq=>RB (oo k) ih lg hz hq
theorem Tz (lg:ah) {aV:Int} (hf:FE lg=some aV) (h:Q (.ret (iP aV)) τ):PC 14 [.agg (bn lg)] τ Q:=
 ((Sy BIG)) lg hf h
theorem Tt (e1:ah) {r0:Bool} (hf:BJ e1=some r0) (h:Q (.ret (.bool r0)) τ):PC 261 [.agg (bn e1)] τ Q:=by
 unfold BJ at hf; refine BN 45 [.tmp 2] [0] Tryz.func261 Z Z Z Z Z (V 6 Z (C hf Z (fun h1 hf=>?_) fun h1 hf=>?_))
 ·
  refine V 0 Z (AW.cond Z (fun h2=>?_) (fun h2=>?_))
  · refine W 2 Z (AS Z (AO.aU (l:=e1.args) Z Z Z Z iI Z (ah.aO _) ?_)); cases hf; exact N 2 Z (Y Z h)
  cases h1.symm.trans h2
 refine V 2 Z (C hf Z (fun h3 hf=>?_) fun h3 hf=>?_)
 · refine W 2 Z (AS Z (AO.aU (l:=e1.args) Z Z Z Z iI Z (ah.aO _) ?_)); cases hf; exact N 2 Z (Y Z h)
 refine V 2 Z (C hf Z (fun h4 hf=>?_) fun h4 hf=>?_)
 ·
  refine V 0 Z (AW.cond Z (fun h5=>?_) (fun h5=>?_))
  · refine W 2 Z (AS Z (AO.aU (l:=e1.args) Z Z Z Z iI Z (ah.aO _) ?_)); cases hf; exact N 2 Z (Y Z h)
  cases h4.symm.trans h5
 refine V 2 Z (C hf Z (fun h6 hf=>?_) fun h6 hf=>?_)
 · refine W 2 Z (AS Z (AO.aU (l:=e1.args) Z Z Z Z iI Z (ah.aO _) ?_)); cases hf; exact N 2 Z (Y Z h)
 refine V 2 Z (C hf Z (fun h7 hf=>?_) fun h7 hf=>?_)
 ·
  refine V 0 Z (AW.cond Z (fun h8=>?_) (fun h8=>?_))
  · refine W 2 Z (AS Z (AO.aU (l:=e1.args) Z Z Z Z iI Z (ah.aO _) ?_)); cases hf; exact N 2 Z (Y Z h)
  cases h7.symm.trans h8
 refine V 2 Z (C hf Z (fun h9 hf=>?_) fun h9 hf=>?_)
 · refine W 2 Z (AS Z (AO.aU (l:=e1.args) Z Z Z Z iI Z (ah.aO _) ?_)); cases hf; exact N 2 Z (Y Z h)
 refine V 2 Z (C hf Z (fun h10 hf=>?_) fun h10 hf=>?_)
 · refine W 2 Z (AS Z (AO.aU (l:=e1.args) Z Z Z Z iI Z (ah.aO _) ?_)); cases hf; exact N 2 Z (Y Z h)
 refine W 4 Z (On 4 35 39 [1] (e1.kind == 9) Z Z Z Z (U 1 Z (On 4 40 44 [] (e1.kind == 10) Z Z Z Z ?_))); cases hf; exact N 1 Z (Y Z h)
theorem Tp (e1:ah) {r0:Bool} (hf:BI e1=some r0) (h:Q (.ret (.bool r0)) τ):PC 262 [.agg (bn e1)] τ Q:=by
 unfold BI at hf; refine BN 31 [.tmp 2] [0] Tryz.func262 Z Z Z Z Z (V 6 Z (C hf Z (fun h1 hf=>?_) fun h1 hf=>?_))
 ·
  refine V 0 Z (AW.cond Z (fun h2=>?_) (fun h2=>?_))
  · refine BR hf fun x1 h3 hf=>?_; refine W 2 Z (CL Z (xU _ h3 ?_)); cases hf; exact N 1 Z (Y Z h)
  cases h1.symm.trans h2
 refine V 2 Z (C hf Z (fun h4 hf=>?_) fun h4 hf=>?_)
 ·
  refine V 0 Z (AW.cond Z (fun h5=>?_) (fun h5=>?_))
  · refine BR hf fun x2 h6 hf=>?_; refine W 2 Z (CL Z (xU _ h6 ?_)); cases hf; exact N 1 Z (Y Z h)
  cases h4.symm.trans h5
 refine V 2 Z (C hf Z (fun h7 hf=>?_) fun h7 hf=>?_)
 · refine BR hf fun x3 h8 hf=>?_; refine W 2 Z (CL Z (xU _ h8 ?_)); cases hf; exact N 1 Z (Y Z h)
 refine V 2 Z (C hf Z (fun h9 hf=>?_) fun h9 hf=>?_)
 · refine W 4 Z (On 4 17 21 [] (e1.name == ([45]:Str)) Z Z Z Z ?_); cases hf; exact N 1 Z (Y Z h)
 refine V 2 Z (C hf Z (fun h11 hf=>?_) fun h11 hf=>?_)
 · refine B1 hf fun x4 h12 hf=>W 2 Z (CL Z (E5 _ h12 ?_)); cases hf; exact N 2 Z (Y Z h)
 cases hf; exact M 4 Z (Y Z h)
abbrev NP (jW:ak→ak→Option Bool):Prop:=∀ (tJ:ak) (tH:ak) {aV:Bool},jW tJ tH=some aV→∀ {τ:List bA} {Q:eT→List bA→Prop} (h:Q (.ret (.bool aV)) τ),PC 263 [.agg (bK tJ),.agg (bK tH)] τ Q
theorem Ud (jW) (Qz:NP jW) (a1:ak) (b1:ak) {r0:Bool} (hf:Cz jW a1 b1=some r0) (h:Q (.ret (.bool r0)) τ):PC 263 [.agg (bK a1),.agg (bK b1)] τ Q:=by
 unfold Cz at hf; refine BN 88 [.tmp 4] [0,1] Tryz.func263 Z Z Z Z Z (W 9 Z (AR.or 6 12 18 [2,3] (x:=(!(a1.fU == b1.fU))) Z Z (fun h1=>?_) (fun h1=>?_) ?_))
 · refine Is 12 h1 Z (U 4 Z (GO Z (AO.NJ Z abD Z Z ?_))); exact dP 1 Z (En [18,2,3] Z)
 · refine Is 12 h1 Z ?_; exact dP 6 Z (En [18,2,3] Z)
 refine U 1 Z (On 6 19 25 [2,3] (a1.kF != b1.kF) Z Z Z Z (U 1 Z (On 6 26 32 [2,3] (!(a1.kC == b1.kC)) Z Z Z Z (U 1 Z (AR.or 8 33 41 [2,3] (x:=((a1.bT.length:Int) != (b1.bT.length:Int))) Z Z (fun h4=>?_) (fun h4=>?_) ?_)))))
 · refine Is 33 h4 Z (U 2 Z (GO Z (AO.aU (l:=a1.bT) Z Z Z Z lC Z (ak.aO _) (U 2 Z (GO Z (AO.aU (l:=b1.bT) Z Z Z Z lC Z (ak.aO _) ?_)))))); exact dP 2 Z (En [41,2,3] Z)
 · refine Is 33 h4 Z ?_; exact dP 8 Z (En [41,2,3] Z)
 refine U 1 Z (AR.or 8 42 50 [2,3] (x:=((a1.keys.length:Int) != (b1.keys.length:Int))) Z Z (fun h5=>?_) (fun h5=>?_) ?_)
 · refine Is 42 h5 Z (U 2 Z (GO Z (AO.aU (l:=a1.keys) Z Z Z Z iy Z Z (U 2 Z (GO Z (AO.aU (l:=b1.keys) Z Z Z Z iy Z Z ?_)))))); exact dP 2 Z (En [50,2,3] Z)
 · refine Is 42 h5 Z ?_; exact dP 8 Z (En [50,2,3] Z)
 refine J 0 Z (C hf Z (fun h6 hf=>?_) fun h6 hf=>?_)
 · cases hf; exact M 1 Z (Y Z h)
 refine V 1 Z (FT (fun i1=>[(2,.ref (bK a1)),(3,.ref (bK b1)),(5,iP i1)]) (fun i1=>[]) (fun dA i1=>xJ jW a1 b1 dA i1=some r0) BIG 0 Z Z hf (fun _ hz=>bI hz) ?_); intro dA i1 hf; rw [xJ] at hf; refine W 3 Z (AS Z (AO.aU (l:=a1.keys) Z Z Z Z iy Z Z (J 1 Z (C hf Z (fun h7 hf=>?_) fun h7 hf=>?_))))
 ·
  refine V 0 Z (AW.draw 11 mixed (by kernel_rfl) Z ?_); refine Ev.cs bL 3 Z ?_; refine B1 hf fun e1 h8 hf=>Ev.cons Z Z Z (AO.bF h8 Z Z Z Z iy Z Z zg) (Ev.cs bL 4 Z ?_); refine B1 hf fun e2 h9 hf=>Ev.cons Z Z Z (AO.bF h9 Z Z Z Z iy Z Z zg) (Ev.cs bL 2 Z (Ev.nil ?_)); show AR _ _ _ _ _ _ _ _; refine J 0 Z (C hf Z (fun h10 hf=>?_) fun h10 hf=>?_)
  · cases hf; exact M 1 Z (Y Z h)
  exact M 3 Z ⟨(bV (i1 + 1)),Z,Z,Z,hf⟩
 refine V 1 Z (FT (fun i2=>[(2,.ref (bK a1)),(3,.ref (bK b1)),(6,iP i2)]) (fun i2=>[]) (fun Mw i2=>xI jW a1 b1 Mw i2=some r0) BIG 0 Z Z hf (fun _ hz=>bI hz) ?_); intro Mw i2 hf; rw [xI] at hf; refine W 3 Z (AS Z (AO.aU (l:=a1.bT) Z Z Z Z lC Z (ak.aO _) (J 1 Z (C hf Z (fun h11 hf=>?_) fun h11 hf=>?_))))
 ·
  refine V 0 Z (AW.draw 12 mixed (by kernel_rfl) Z ?_); refine Ev.cs bL 3 Z ?_; refine B1 hf fun e3 h12 hf=>Ev.cons Z Z Z (AO.bF h12 Z Z (ak.aO _) Z lC (ak.aP _) Z zg) (Ev.cs bL 4 Z ?_); refine B1 hf fun e4 kL hf=>Ev.cons Z Z Z (AO.bF kL Z Z (ak.aO _) Z lC (ak.aP _) Z zg) (Ev.cs bL 1 Z ?_); refine B1 hf fun x1 lD hf=>Ev.cons Z Z Z (AO.call Z _ Z Z Ym (Qz _ _ lD zg)) (Ev.cs bL 1 Z (Ev.nil ?_)); show AR _ _ _ _ _ _ _ _; refine J 0 Z (C hf Z (fun nT hf=>?_) fun nT hf=>?_)
  · cases hf; exact M 1 Z (Y Z h)
  exact M 3 Z ⟨(bV (i2 + 1)),Z,Z,Z,hf⟩
 cases hf; exact M 1 Z (Y Z h)
theorem Ux :∀ k:Nat,(NP (wU k)):=by
 intro k
 induction k with
 | zero=>exact fun _ _ _ hz=>by first | cases hz | (unfold wU at hz; cases hz)
 | succ k ih=>exact fun tJ tH aV hz τ Q hq=>Ud (wU k) ih tJ tH hz hq
theorem U1 (tJ:ak) (tH:ak) {aV:Bool} (hf:Hw tJ tH=some aV) (h:Q (.ret (.bool aV)) τ):PC 263 [.agg (bK tJ),.agg (bK tH)] τ Q:=
 ((Ux BIG)) tJ tH hf h
theorem QZ (e1:ah) {r0:Bool} (hf:zH e1=some r0) (h:Q (.ret (.bool r0)) τ):PC 193 [.agg (bn e1)] τ Q:=by
 unfold zH at hf; refine BN 61 [.tmp 2] [0] Tryz.func193 Z Z Z Z Z ?_; refine B1 hf fun x1 h1 hf=>W 3 Z (CL Z (Tt _ h1 ?_)); refine B1 hf fun b1 h3 hf=>U 2 Z (AR.dH 4 7 11 false [1] b1 Z Z (fun h2=>?_) (fun h2=>?_) ?_)
 · refine IF 7 h2 h3 Z fun h3=>?_; refine B1 h3 fun x2 h4 h3=>U 1 Z (GO Z (AO.call Z _ Z Z abQ (Tp _ h4 ?_))); cases h3; exact dP 2 Z (En [11,1] Z)
 · refine IT 7 h2 h3 Z fun h3=>?_; cases h3; exact dP 4 Z (En [11,1] Z)
 refine B1 hf fun b2 h6 hf=>U 1 Z (AR.dH 11 12 23 false [1] b2 Z Z (fun h5=>?_) (fun h5=>?_) ?_)
 ·
  refine IF 12 h5 h6 Z fun h6=>?_; refine BR h6 fun b3 h8 h6=>?_; refine U 4 Z (AR.dH 6 16 22 true [1,12] b3 Z Z (fun h7=>?_) (fun h7=>?_) ?_)
  · replace h8:=jV h7 h8; refine Is 16 h7 Z (U 2 Z (GO Z (AO.build Z rG X6 Z ?_))); refine B1 h8 fun x3 h9 h8=>GO Z (AO.call Z _ Z Z Ym (U1 _ _ h9 ?_)); cases h8; exact dP 2 Z (En [22,1,12] Z)
  · refine IF 16 h7 h8 Z fun h8=>?_; cases h8; exact dP 6 Z (En [22,1,12] Z)
  cases h6; exact dP 1 Z (En [23,1] Z)
 · refine IT 12 h5 h6 Z fun h6=>?_; cases h6; exact dP 11 Z (En [23,1] Z)
 refine J 0 Z (C hf Z (fun h10 hf=>?_) fun h10 hf=>?_)
 · cases hf; exact M 1 Z (Y Z h)
 refine V 3 Z (C hf Z (fun h11 hf=>?_) fun h11 hf=>?_)
 · refine W 2 Z (AS Z (AO.aU (l:=e1.keys) Z Z Z Z iy Z Z ?_)); cases hf; exact N 2 Z (Y Z h)
 refine V 1 Z (FT (fun i1=>[(1,.ref (bn e1)),(3,iP i1)]) (fun i1=>[]) (fun dA i1=>qQ e1 dA i1=some r0) BIG 0 Z Z hf (fun _ hz=>bI hz) ?_); intro dA i1 hf; rw [qQ] at hf; refine W 3 Z (AS Z (AO.aU (l:=e1.keys) Z Z Z Z iy Z Z (J 1 Z (C hf Z (fun h12 hf=>?_) fun h12 hf=>?_))))
 ·
  refine B1 hf fun e2 kL hf=>W 3 Z (AS Z (AO.bF kL Z Z Z Z iy Z Z (U 1 Z (AS Z (AO.bZ Z Z Z Z dh Z ?_))))); refine B1 hf fun b4 nT hf=>U 2 Z (AR.dH 8 45 53 false [1,3] b4 Z Z (fun lD=>?_) (fun lD=>?_) ?_)
  · refine IF 45 lD nT Z fun nT=>?_; refine B1 nT fun e3 h16 nT=>U 3 Z (GO Z (AO.bF h16 Z Z Z Z iy Z Z (U 1 Z (GO Z (AO.bZ Z Z Z Z dh Z ?_))))); cases nT; exact dP 2 Z (En [53,1,3] Z)
  · refine IT 45 lD nT Z fun nT=>?_; cases nT; exact dP 8 Z (En [53,1,3] Z)
  refine J 0 Z (C hf Z (fun wP hf=>?_) fun wP hf=>?_)
  · cases hf; exact M 1 Z (Y Z h)
  exact M 3 Z ⟨(bV (i1 + 1)),Z,Z,Z,hf⟩
 refine W 2 Z (AS Z (AO.aU (l:=e1.keys) Z Z Z Z iy Z Z (U 2 Z (AS Z (AO.aU (l:=e1.args) Z Z Z Z iI Z (ah.aO _) ?_))))); cases hf; exact N 2 Z (Y Z h)
theorem TB (v1:ak) {r0:Bool} (hf:BQ v1=some r0) (h:Q (.ret (.bool r0)) τ):PC 163 [.agg (bK v1)] τ Q:=by
 unfold BQ at hf; refine BN 53 [.tmp 2] [0] Tryz.func163 Z Z Z Z Z (W 5 Z (An 4 5 9 [1] (v1.kind != 1) Z Z Z Z (U 1 Z (AR.or 9 10 19 [1] (x:=((v1.kF != 0) && (v1.kind != 2))) Z Z (fun h2=>?_) (fun h2=>?_) ?_))))
 · refine Is 10 h2 Z (U 4 Z (An 4 14 18 [1,10] (v1.kind != 2) Z Z Z Z ?_)); exact dP 1 Z (En [19,1] Z)
 · refine Is 10 h2 Z ?_; exact dP 9 Z (En [19,1] Z)
 refine U 1 Z (AR.or 9 20 29 [1] (x:=((!(v1.kC == ([]:Str))) && (v1.kind != 3))) Z Z (fun h4=>?_) (fun h4=>?_) ?_)
 · refine Is 20 h4 Z (U 4 Z (An 4 24 28 [1,20] (v1.kind != 3) Z Z Z Z ?_)); exact dP 1 Z (En [29,1] Z)
 · refine Is 20 h4 Z ?_; exact dP 9 Z (En [29,1] Z)
 refine J 0 Z (C hf Z (fun h6 hf=>?_) fun h6 hf=>?_)
 · cases hf; exact M 1 Z (Y Z h)
 refine W 2 Z (AS Z (AO.aU (l:=v1.bT) Z Z Z Z lC Z (ak.aO _) (U 2 Z (An 4 34 38 [1] (v1.kind != 4) Z Z Z Z (U 1 Z (An 4 39 43 [1] (v1.kind != 5) Z Z Z Z (J 0 Z (C hf Z (fun h9 hf=>?_) fun h9 hf=>?_))))))))
 · cases hf; exact M 1 Z (Y Z h)
 refine W 2 Z (AS Z (AO.aU (l:=v1.keys) Z Z Z Z iy Z Z (U 2 Z (On 4 48 52 [] (v1.kind == 5) Z Z Z Z ?_)))); cases hf; exact N 1 Z (Y Z h)
theorem Xr (s1:Str) {r0:Bool} (hf:Hu s1=some r0) (h:Q (.ret (.bool r0)) τ):PC 239 [.str s1] τ Q:=by
 unfold Hu at hf; refine BN 11 [.tmp 2] [0] Tryz.func239 Z Z Z Z Z (W 2 Z (AS Z (AO.bZ Z Z Z Z dh Z (U 2 Z (AR.and 4 6 10 [] (x:=(decide ((s1.length:Int)≤64))) Z Z (fun h1=>?_) (fun h1=>?_) ?_)))))
 · refine Is 6 h1 Z (U 1 Z (GO Z (AO.bZ Z Z Z Z dh Z ?_))); exact dP 2 Z (En [10] Z)
 · refine Is 6 h1 Z ?_; exact dP 4 Z (En [10] Z)
 cases hf; exact N 1 Z (Y Z h)
theorem xV (Vy:Bool) (Ie:Bool) {r0:Int} (hf:sQ Vy Ie=some r0) (h:Q (.ret (iP r0)) τ):PC 139 [.bool Vy,.bool Ie] τ Q:=by
 unfold sQ at hf; refine BN 7 [.tmp 4] [0,1] Tryz.func139 Z Z Z Z Z (V 2 Z (C hf Z (fun h1 hf=>?_) fun h1 hf=>?_))
 · cases hf; exact M 1 Z (Y Z h)
 refine V 1 Z (C hf Z (fun h2 hf=>?_) fun h2 hf=>?_)
 · cases hf; exact M 1 Z (Y Z h)
 cases hf; exact M 1 Z (Y Z h)
theorem E8 (c1:UInt8) {r0:Bool} (hf:zh c1=some r0) (h:Q (.ret (.bool r0)) τ):PC 140 [.int .u8 (c1.toNat:Int)] τ Q:=by
 unfold zh at hf; refine BN 9 [.tmp 2] [0] Tryz.func140 Z Z Z Z Z (W 4 Z (An 3 5 8 [] (decide ((c1.toNat:Int)≤57)) Z Z Z Z ?_)); cases hf; exact N 1 Z (Y Z h)
theorem PE (s1:Str) (cZ:Int) {r0:Int} (hf:Hy s1 cZ=some r0) (h:Q (.ret (iP r0)) τ):PC 141 [.str s1,iP cZ] τ Q:=by
 unfold Hy at hf; refine BN 18 [.tmp 4] [0,1] Tryz.func141 Z Z Z Z Z (V 1 Z (FT (fun at2=>[(0,.str s1),(1,iP at2)]) (fun at2=>[]) (fun dA at2=>zK s1 dA at2=some r0) BIG cZ Z Z hf (fun _ hz=>bI hz) ?_)); intro dA at2 hf; rw [zK] at hf; refine W 2 Z (AS Z (AO.bZ Z Z Z Z dh Z ?_)); refine B1 hf fun b1 h2 hf=>U 2 Z (AR.dH 5 9 14 true [0,1] b1 Z Z (fun h1=>?_) (fun h1=>?_) ?_)
 · refine IT 9 h1 h2 Z fun h2=>?_; refine B1 h2 fun x1 h3 h2=>U 2 Z (GO Z (AO.dB h3 Z dh Z Z ?_)); refine BR h2 fun x2 h4 h2=>?_; refine GO Z (AO.call Z _ Z Z Yr (E8 _ h4 ?_)); cases h2; exact dP 1 Z (En [14,0,1] Z)
 · refine IF 9 h1 h2 Z fun h2=>?_; cases h2; exact dP 5 Z (En [14,0,1] Z)
 refine J 0 Z (C hf Z (fun h5 hf=>?_) fun h5 hf=>?_)
 · exact M 3 Z ⟨(bV (at2 + 1)),Z,Z,Z,hf⟩
 cases hf; exact M 2 Z (Y Z h)
theorem J_ (s1:Str) {r0:Str} (hf:ze s1=some r0) (h:Q (.ret (.str r0)) τ):PC 221 [.str s1] τ Q:=by
 unfold ze at hf; refine BN 19 [.tmp 2] [0] Tryz.func221 Z Z Z Z Z (V 2 Z (FT (fun i1=>[(0,.str s1),(3,iP i1)]) (fun i1=>[]) (fun dA i1=>sO s1 dA i1=some r0) BIG 0 Z Z hf (fun _ hz=>bI hz) ?_)); intro dA i1 hf; rw [sO] at hf; refine W 2 Z (AS Z (AO.bZ Z Z Z Z dh Z ?_)); refine B1 hf fun b1 h2 hf=>U 2 Z (AR.dH 5 8 13 true [0,3] b1 Z Z (fun h1=>?_) (fun h1=>?_) ?_)
 · refine IT 8 h1 h2 Z fun h2=>?_; refine B1 h2 fun x1 h3 h2=>U 2 Z (GO Z (AO.dB h3 Z dh Z Z ?_)); cases h2; exact dP 2 Z (En [13,0,3] Z)
 · refine IF 8 h1 h2 Z fun h2=>?_; cases h2; exact dP 5 Z (En [13,0,3] Z)
 refine J 0 Z (C hf Z (fun h4 hf=>?_) fun h4 hf=>?_)
 · exact M 3 Z ⟨(bV (i1 + 1)),Z,Z,Z,hf⟩
 refine BR hf fun x2 h5 hf=>?_; refine W 2 Z (AS Z (AO.mP h5 Z dh Z ⟨_,Z⟩ Z ?_)); cases hf; exact N 1 Z (Y Z h)
theorem U2 (a1:Str) (b1:Str) {r0:Int} (hf:Ep a1 b1=some r0) (h:Q (.ret (iP r0)) τ):PC 142 [.str a1,.str b1] τ Q:=by
 unfold Ep at hf; refine BN 48 [.tmp 4] [0,1] Tryz.func142 Z Z Z Z Z ?_; refine B1 hf fun x1 h1 hf=>W 2 Z (CL Z (J_ _ h1 ?_)); refine B1 hf fun y1 h2 hf=>U 1 Z (CL Z (J_ _ h2 (U 3 Z (AS Z (AO.bZ Z Z Z Z dh Z (U 1 Z (AS Z (AO.bZ Z Z Z Z dh Z (J 1 Z (C hf Z (fun h3 hf=>?_) fun h3 hf=>?_))))))))))
 · refine W 1 Z (AS Z (AO.bZ Z Z Z Z dh Z (U 1 Z (AS Z (AO.bZ Z Z Z Z dh Z (U 2 Z (AS Z (AO.bZ Z Z Z Z dh Z (U 1 Z (AS Z (AO.bZ Z Z Z Z dh Z ?_))))))))))); refine BR hf fun x2 h4 hf=>?_; refine U 1 Z (CL Z (xV _ _ h4 ?_)); cases hf; exact N 1 Z (Y Z h)
 refine V 3 Z (C hf Z (fun h5 hf=>?_) fun h5 hf=>?_)
 · refine BR hf fun x3 h6 hf=>?_; refine W 6 Z (CL Z (xV _ _ h6 ?_)); cases hf; exact N 1 Z (Y Z h)
 refine W 1 Z (AS Z (AO.bZ Z Z Z Z dh Z (U 1 Z (AS Z (AO.bZ Z Z Z Z dh Z (U 2 Z (AS Z (AO.bZ Z Z Z Z dh Z (U 1 Z (AS Z (AO.bZ Z Z Z Z dh Z ?_))))))))))); refine BR hf fun x4 h7 hf=>?_; refine U 1 Z (CL Z (xV _ _ h7 ?_)); cases hf; exact N 1 Z (Y Z h)
theorem Gg (a1:Str) (b1:Str) {r0:Int} (hf:oz a1 b1=some r0) (h:Q (.ret (iP r0)) τ):PC 84 [.str a1,.str b1] τ Q:=by
 unfold oz at hf; refine BN 78 [.tmp 4] [0,1] Tryz.func84 Z Z Z Z Z (V 3 Z (Rk (fun i1 wO=>[(0,.str a1),(1,.str b1),(5,iP i1),(6,iP wO)]) (fun i1 wO=>[]) (fun dA i1 wO=>l8 a1 b1 dA i1 wO=some r0) BIG 0 0 Z Z hf (fun _ _ hz=>bI hz) ?_)); intro dA i1 wO hf; rw [l8] at hf; refine W 2 Z (AS Z (AO.bZ Z Z Z Z dh Z (U 2 Z (AR.and 5 14 19 [0,1,5,6] (x:=(decide (wO < (b1.length:Int)))) Z Z (fun h1=>?_) (fun h1=>?_) ?_))))
 · refine Is 14 h1 Z (U 2 Z (GO Z (AO.bZ Z Z Z Z dh Z ?_))); exact dP 2 Z (En [19,0,1,5,6] Z)
 · refine Is 14 h1 Z ?_; exact dP 5 Z (En [19,0,1,5,6] Z)
 refine J 0 Z (C hf Z (fun h2 hf=>?_) fun h2 hf=>?_)
 ·
  refine V 0 Z (AW.draw 16 mixed (by kernel_rfl) Z ?_); refine Ev.cs bL 2 Z ?_; refine B1 hf fun x1 h3 hf=>Ev.cons Z Z Z (AO.dB h3 Z dh Z Z zg) (Ev.cs bL 2 Z ?_); refine B1 hf fun x2 h4 hf=>Ev.cons Z Z Z (AO.dB h4 Z dh Z Z zg) (Ev.cs bL 3 Z ?_); refine B1 hf fun x3 h5 hf=>Ev.cons Z Z Z (AO.dB h5 Z dh Z Z zg) (Ev.cs bL 2 Z ?_); refine B1 hf fun x4 h6 hf=>Ev.cons Z Z Z (AO.dB h6 Z dh Z Z zg) (Ev.cs bL 1 Z ?_); refine B1 hf fun c1 h7 hf=>Ev.cons Z Z Z (AO.call Z _ Z Z acg (xV _ _ h7 zg)) (Ev.cs bL 1 Z (Ev.nil ?_)); show AR _ _ _ _ _ _ _ _; refine B1 hf fun x5 h8 hf=>U 8 Z (AS Z (AO.dB h8 Z dh Z Z ?_)); refine B1 hf fun x6 h9 hf=>CL Z (E8 _ h9 ?_); refine B1 hf fun b2 h11 hf=>U 1 Z (AR.dH 5 43 48 true [0,1,5,6,7,8,9] b2 Z Z (fun h10=>?_) (fun h10=>?_) ?_)
  · refine IT 43 h10 h11 Z fun h11=>?_; refine B1 h11 fun x7 h12 h11=>U 2 Z (GO Z (AO.dB h12 Z dh Z Z ?_)); refine BR h11 fun x8 kL h11=>?_; refine GO Z (AO.call Z _ Z Z Yr (E8 _ kL ?_)); cases h11; exact dP 1 Z (En [48,0,1,5,6,7,8,9] Z)
  · refine IF 43 h10 h11 Z fun h11=>?_; cases h11; exact dP 5 Z (En [48,0,1,5,6,7,8,9] Z)
  refine J 0 Z (C hf Z (fun lD hf=>?_) fun lD hf=>?_)
  ·
   refine B1 hf fun m1 nT hf=>W 2 Z (CL Z (PE _ _ nT ?_)); refine B1 hf fun n1 h16 hf=>U 2 Z (CL Z (PE _ _ h16 (J 2 Z (AW.draw 10 mixed (by kernel_rfl) Z ?_)))); refine Ev.cs bL 3 Z ?_; refine B1 hf fun x9 wP hf=>Ev.cons Z Z Z (AO.mP wP Z dh Z ⟨_,Z⟩ ⟨_,Z⟩ zg) (Ev.cs bL 3 Z ?_); refine B1 hf fun JK h18 hf=>Ev.cons Z Z Z (AO.mP h18 Z dh Z ⟨_,Z⟩ ⟨_,Z⟩ zg) ?_; refine B1 hf fun c2 h19 hf=>Ev.cons Z Z Z (AO.call Z _ Z Z acf (U2 _ _ h19 zg)) (Ev.cs bL 1 Z (Ev.nil ?_)); show AR _ _ _ _ _ _ _ _; refine J 2 Z (C hf Z (fun h20 hf=>?_) fun h20 hf=>?_)
   · cases hf; exact M 2 Z (Y Z h)
   exact M 4 Z ⟨m1,n1,Z,Z,Z,hf⟩
  refine V 2 Z (C hf Z (fun h21 hf=>?_) fun h21 hf=>?_)
  · cases hf; exact M 2 Z (Y Z h)
  exact M 4 Z ⟨(bV (i1 + 1)),(bV (wO + 1)),Z,Z,Z,hf⟩
 refine W 2 Z (AS Z (AO.bZ Z Z Z Z dh Z (U 3 Z (AS Z (AO.bZ Z Z Z Z dh Z ?_))))); refine BR hf fun Rs h22 hf=>?_; refine U 1 Z (CL Z (xV _ _ h22 ?_)); cases hf; exact N 1 Z (Y Z h)
theorem KG (v1:ak) {r0:Bool} (hf:um v1=some r0) (h:Q (.ret (.bool r0)) τ):PC 164 [.agg (bK v1)] τ Q:=by
 unfold um at hf; refine BN 44 [.tmp 2] [0] Tryz.func164 Z Z Z Z Z (V 3 Z (FT (fun i1=>[(1,.ref (bK v1)),(3,iP i1)]) (fun i1=>[]) (fun dA i1=>nu v1 dA i1=some r0) BIG 0 Z Z hf (fun _ hz=>bI hz) ?_)); intro dA i1 hf; rw [nu] at hf; refine W 3 Z (AS Z (AO.aU (l:=v1.keys) Z Z Z Z iy Z Z (J 1 Z (C hf Z (fun h1 hf=>?_) fun h1 hf=>?_))))
 ·
  refine V 0 Z (AW.draw 26 mixed (by kernel_rfl) Z ?_); refine Ev.cs bL 3 Z ?_; refine B1 hf fun e1 h2 hf=>Ev.cons Z Z Z (AO.bF h2 Z Z Z Z iy Z Z zg) (Ev.cs bL 1 Z ?_); refine B1 hf fun x1 h3 hf=>Ev.cons Z Z Z (AO.call Z _ Z Z abX (Xr _ h3 zg)) (Ev.cs bL 2 Z ?_); refine B1 hf fun b1 h5 hf=>Ev.dH hKA 18 18 36 false [1,3] (.bool b1) Z Z (fun h4=>?_) (fun h4=>?_) ?_
  ·
   replace h5:=jg h4 h5; refine Ev.is WW 18 h4 Z (Ev.cs bL 3 Z ?_); refine BR h5 fun b2 h7 h5=>?_; refine Ev.dH WW 14 21 35 true [1,3,18] (.bool b2) Z Z (fun h6=>?_) (fun h6=>?_) ?_
   ·
    replace h7:=jV h6 h7; refine Ev.is WW 21 h6 Z (Ev.cs bL 4 Z ?_); refine B1 h7 fun e2 h8 h7=>Ev.run Z Z Z Z Z Z Z (AO.bF h8 Z Z Z Z iy Z Z zg) (Ev.cs bL 4 Z ?_); refine B1 h7 fun e3 h9 h7=>Ev.run Z Z Z Z Z Z Z (AO.bF h9 Z Z Z Z iy Z Z zg) (Ev.cs bL 1 Z ?_); refine B1 h7 fun x2 h10 h7=>Ev.run Z Z Z Z Z Z Z (AO.call Z _ Z Z aaZ (Gg _ _ h10 zg)) (Ev.cs bL 1 Z ?_); cases h7; refine Ev.cs bL 1 Z ?_; exact Ev.nil (Less.settle (ps:=[35,1,3,18]) Z)
   · replace h7:=jg h6 h7; refine Ev.is WW 21 h6 Z ?_; cases h7; refine Ev.cs bL 14 Z ?_; exact Ev.nil (Less.settle (ps:=[35,1,3,18]) Z)
   cases h5; refine Ev.cs bL 1 Z ?_; exact Ev.nil (Less.settle (ps:=[36,1,3]) Z)
  · replace h5:=jV h4 h5; refine Ev.is WW 18 h4 Z ?_; cases h5; refine Ev.cs bL 18 Z ?_; exact Ev.nil (Less.settle (ps:=[36,1,3]) Z)
  refine Ev.nil ?_; show AR _ _ _ _ _ _ _ _; refine J 0 Z (C hf Z (fun h11 hf=>?_) fun h11 hf=>?_)
  · cases hf; exact M 1 Z (Y Z h)
  exact M 3 Z ⟨(bV (i1 + 1)),Z,Z,Z,hf⟩
 refine W 2 Z (AS Z (AO.aU (l:=v1.keys) Z Z Z Z iy Z Z (U 2 Z (AS Z (AO.aU (l:=v1.bT) Z Z Z Z lC Z (ak.aO _) ?_))))); cases hf; exact N 2 Z (Y Z h)
abbrev Kk (lZ:ak→Int→Option Int):Prop:=∀ (yc:ak) (fM:Int) {aV:Int},lZ yc fM=some aV→∀ {τ:List bA} {Q:eT→List bA→Prop} (h:Q (.ret (iP aV)) τ),PC 93 [.agg (bK yc),iP fM] τ Q
theorem RF (lZ) (Ot:Kk lZ) (v1:ak) (cB:Int) {r0:Int} (hf:Aq lZ v1 cB=some r0) (h:Q (.ret (iP r0)) τ):PC 93 [.agg (bK v1),iP cB] τ Q:=by
 unfold Aq at hf; refine BN 85 [.tmp 4] [0,1] Tryz.func93 Z Z Z Z Z (V 4 Z (C hf Z (fun h1 hf=>?_) fun h1 hf=>?_))
 · cases hf; exact M 1 Z (Y Z h)
 refine W 4 Z (On 4 12 16 [1,2] (decide (5 < v1.kind)) Z Z Z Z ?_); refine B1 hf fun b1 h4 hf=>U 1 Z (AR.dH 4 17 21 false [1,2] b1 Z Z (fun h3=>?_) (fun h3=>?_) ?_)
 · refine IF 17 h3 h4 Z fun h4=>?_; refine B1 h4 fun x1 h5 h4=>U 1 Z (GO Z (AO.call Z _ Z Z ab9 (TB _ h5 ?_))); cases h4; exact dP 2 Z (En [21,1,2] Z)
 · refine IT 17 h3 h4 Z fun h4=>?_; cases h4; exact dP 4 Z (En [21,1,2] Z)
 refine J 0 Z (C hf Z (fun h6 hf=>?_) fun h6 hf=>?_)
 · cases hf; exact M 1 Z (Y Z h)
 refine W 4 Z (On 4 25 29 [1,2] (decide (9007199254740992 < v1.kF)) Z Z Z Z (J 0 Z (C hf Z (fun h8 hf=>?_) fun h8 hf=>?_)))
 · cases hf; exact M 1 Z (Y Z h)
 refine W 2 Z (AS Z (AO.bZ Z Z Z Z dh Z (U 2 Z (AR.or 5 34 39 [1,2] (x:=(decide (1024 < (v1.bT.length:Int)))) Z Z (fun h9=>?_) (fun h9=>?_) ?_))))
 · refine Is 34 h9 Z (U 2 Z (GO Z (AO.aU (l:=v1.bT) Z Z Z Z lC Z (ak.aO _) ?_))); exact dP 2 Z (En [39,1,2] Z)
 · refine Is 34 h9 Z ?_; exact dP 5 Z (En [39,1,2] Z)
 refine U 1 Z (AR.or 5 40 45 [1,2] (x:=(decide (1024 < (v1.keys.length:Int)))) Z Z (fun h10=>?_) (fun h10=>?_) ?_)
 · refine Is 40 h10 Z (U 2 Z (GO Z (AO.aU (l:=v1.keys) Z Z Z Z iy Z Z ?_))); exact dP 2 Z (En [45,1,2] Z)
 · refine Is 40 h10 Z ?_; exact dP 5 Z (En [45,1,2] Z)
 refine J 0 Z (C hf Z (fun h11 hf=>?_) fun h11 hf=>?_)
 · cases hf; exact M 1 Z (Y Z h)
 refine B1 hf fun b2 kL hf=>W 4 Z (AR.dH 4 49 53 true [1,2] b2 Z Z (fun h12=>?_) (fun h12=>?_) ?_)
 · refine IT 49 h12 kL Z fun kL=>?_; refine B1 kL fun x2 lD kL=>U 1 Z (GO Z (AO.call Z _ Z Z ab8 (KG _ lD ?_))); cases kL; exact dP 2 Z (En [53,1,2] Z)
 · refine IF 49 h12 kL Z fun kL=>?_; cases kL; exact dP 4 Z (En [53,1,2] Z)
 refine J 0 Z (C hf Z (fun nT hf=>?_) fun nT hf=>?_)
 · cases hf; exact M 1 Z (Y Z h)
 refine W 4 Z (AR.and 5 57 62 [1,2] (x:=((v1.bT.length:Int) == 0)) Z Z (fun h16=>?_) (fun h16=>?_) ?_)
 · refine Is 57 h16 Z (U 2 Z (GO Z (AO.aU (l:=v1.bT) Z Z Z Z lC Z (ak.aO _) ?_))); exact dP 2 Z (En [62,1,2] Z)
 · refine Is 57 h16 Z ?_; exact dP 5 Z (En [62,1,2] Z)
 refine U 1 Z (An 3 63 66 [1,2] (cB == 16) Z Z Z Z (J 0 Z (C hf Z (fun h18 hf=>?_) fun h18 hf=>?_)))
 · cases hf; exact M 1 Z (Y Z h)
 refine V 1 Z (FT (fun i1=>[(1,iP cB),(2,.ref (bK v1)),(5,iP i1)]) (fun i1=>[]) (fun dA i1=>vP lZ v1 cB dA i1=some r0) BIG 0 Z Z hf (fun _ hz=>bI hz) ?_); intro dA i1 hf; rw [vP] at hf; refine W 3 Z (AS Z (AO.aU (l:=v1.bT) Z Z Z Z lC Z (ak.aO _) (J 1 Z (C hf Z (fun h19 hf=>?_) fun h19 hf=>?_))))
 ·
  refine B1 hf fun e1 h20 hf=>W 3 Z (AS Z (AO.bF h20 Z Z (ak.aO _) Z lC (ak.aP _) Z ?_)); refine B1 hf fun e2 h21 hf=>U 3 Z (CL Z (Ot _ _ h21 (J 3 Z (C hf Z (fun h22 hf=>?_) fun h22 hf=>?_))))
  · cases hf; exact M 2 Z (Y Z h)
  exact M 3 Z ⟨(bV (i1 + 1)),Z,Z,Z,hf⟩
 cases hf; exact M 1 Z (Y Z h)
theorem Sz :∀ k:Nat,(Kk (ow k)):=by
 intro k
 induction k with
 | zero=>exact fun _ _ _ hz=>by first | cases hz | (unfold ow at hz; cases hz)
 | succ k ih=>exact fun yc fM aV hz τ Q hq=>RF (ow k) ih yc fM hz hq
theorem TG (yc:ak) (fM:Int) {aV:Int} (hf:I7 yc fM=some aV) (h:Q (.ret (iP aV)) τ):PC 93 [.agg (bK yc),iP fM] τ Q:=
 ((Sz BIG)) yc fM hf h
theorem TH (v1:ak) {r0:Int} (hf:BU v1=some r0) (h:Q (.ret (iP r0)) τ):PC 56 [.agg (bK v1)] τ Q:=by
 unfold BU at hf; refine BN 5 [.tmp 2] [0] Tryz.func56 Z Z Z Z Z ?_; refine BR hf fun x1 h1 hf=>?_; refine W 3 Z (CL Z (TG _ _ h1 ?_)); cases hf; exact N 1 Z (Y Z h)
theorem Tn (mo:List Str) {r0:Bool} (hf:BH mo=some r0) (h:Q (.ret (.bool r0)) τ):PC 194 [sP mo] τ Q:=by
 unfold BH at hf; refine BN 25 [.tmp 2] [0] Tryz.func194 Z Z Z Z Z (V 2 Z (FT (fun i1=>[(0,sP mo),(3,iP i1)]) (fun i1=>[]) (fun dA i1=>nZ mo dA i1=some r0) BIG 0 Z Z hf (fun _ hz=>bI hz) ?_)); intro dA i1 hf; rw [nZ] at hf; refine W 2 Z (AS Z (AO.aU (l:=mo) Z Z Z Z iy Z Z (J 1 Z (C hf Z (fun h1 hf=>?_) fun h1 hf=>?_))))
 ·
  refine V 1 Z (FT (fun wO=>[(0,sP mo),(3,iP i1),(4,iP wO)]) (fun wO=>[]) (fun Mw wO=>sJ mo i1 (nZ mo dA) Mw wO=some r0) BIG 0 Z Z hf (fun _ hz=>bI hz) ?_); intro Mw wO hf; rw [sJ] at hf; refine V 3 Z (C hf Z (fun h2 hf=>?_) fun h2 hf=>?_)
  ·
   refine V 0 Z (AW.draw 9 mixed (by kernel_rfl) Z ?_); refine Ev.cs bL 2 Z ?_; refine B1 hf fun e1 h3 hf=>Ev.cons Z Z Z (AO.bF h3 Z Z Z Z iy Z Z zg) (Ev.cs bL 3 Z ?_); refine B1 hf fun e2 h4 hf=>Ev.cons Z Z Z (AO.bF h4 Z Z Z Z iy Z Z zg) (Ev.cs bL 2 Z (Ev.nil ?_)); show AR _ _ _ _ _ _ _ _; refine J 0 Z (C hf Z (fun h5 hf=>?_) fun h5 hf=>?_)
   · cases hf; exact M 1 Z (Y Z h)
   exact M 3 Z ⟨(bV (wO + 1)),Z,Z,Z,hf⟩
  exact M 3 Z ⟨(bV (i1 + 1)),Z,Z,Z,hf⟩
 cases hf; exact M 1 Z (Y Z h)
abbrev Kh (lX:ah→Int→Option Int):Prop:=∀ (lg:ah) (fM:Int) {aV:Int},lX lg fM=some aV→∀ {τ:List bA} {Q:eT→List bA→Prop} (h:Q (.ret (iP aV)) τ),PC 118 [.agg (bn lg),iP fM] τ Q
theorem Ry (lX) (Om:Kh lX) (e1:ah) (cB:Int) {r0:Int} (hf:Ak lX e1 cB=some r0) (h:Q (.ret (iP r0)) τ):PC 118 [.agg (bn e1),iP cB] τ Q:=by
 unfold Ak at hf; refine BN 49 [.tmp 4] [0,1] Tryz.func118 Z Z Z Z Z (V 4 Z (C hf Z (fun h1 hf=>?_) fun h1 hf=>?_))
 · cases hf; exact M 1 Z (Y Z h)
 refine B1 hf fun x1 h2 hf=>W 1 Z (CL Z (QZ _ h2 (J 1 Z (C hf Z (fun h3 hf=>?_) fun h3 hf=>?_))))
 · cases hf; exact M 1 Z (Y Z h)
 refine B1 hf fun f1 h4 hf=>W 2 Z (CL Z (TH _ h4 (U 5 Z (An 3 19 22 [1,2,5] (f1 != 0) Z Z Z Z (J 0 Z (C hf Z (fun h6 hf=>?_) fun h6 hf=>?_))))))
 · cases hf; exact M 2 Z (Y Z h)
 refine W 2 Z (AS Z (AO.aU (l:=e1.args) Z Z Z Z iI Z (ah.aO _) (J 1 Z (C hf Z (fun h7 hf=>?_) fun h7 hf=>?_))))
 · cases hf; exact M 1 Z (Y Z h)
 refine B1 hf fun x2 h8 hf=>W 2 Z (CL Z (Tn _ h8 (J 0 Z (C hf Z (fun h9 hf=>?_) fun h9 hf=>?_))))
 · cases hf; exact M 1 Z (Y Z h)
 refine V 1 Z (FT (fun i1=>[(1,iP cB),(2,.ref (bn e1)),(6,iP i1)]) (fun i1=>[]) (fun dA i1=>vL lX e1 cB dA i1=some r0) BIG 0 Z Z hf (fun _ hz=>bI hz) ?_); intro dA i1 hf; rw [vL] at hf; refine W 3 Z (AS Z (AO.aU (l:=e1.args) Z Z Z Z iI Z (ah.aO _) (J 1 Z (C hf Z (fun h10 hf=>?_) fun h10 hf=>?_))))
 ·
  refine B1 hf fun e2 h11 hf=>W 3 Z (AS Z (AO.bF h11 Z Z (ah.aO _) Z iI (ah.aP _) Z ?_)); refine B1 hf fun f2 h12 hf=>U 3 Z (CL Z (Om _ _ h12 (J 3 Z (C hf Z (fun kL hf=>?_) fun kL hf=>?_))))
  · cases hf; exact M 2 Z (Y Z h)
  exact M 3 Z ⟨(bV (i1 + 1)),Z,Z,Z,hf⟩
 cases hf; exact M 1 Z (Y Z h)
theorem Sv :∀ k:Nat,(Kh (oh k)):=by
 intro k
 induction k with
 | zero=>exact fun _ _ _ hz=>by first | cases hz | (unfold oh at hz; cases hz)
 | succ k ih=>exact fun lg fM aV hz τ Q hq=>Ry (oh k) ih lg fM hz hq
theorem Tq (lg:ah) (fM:Int) {aV:Int} (hf:I5 lg fM=some aV) (h:Q (.ret (iP aV)) τ):PC 118 [.agg (bn lg),iP fM] τ Q:=
 ((Sv BIG)) lg fM hf h
theorem Tv (e1:ah) {r0:Int} (hf:BK e1=some r0) (h:Q (.ret (iP r0)) τ):PC 73 [.agg (bn e1)] τ Q:=by
 unfold BK at hf; refine BN 8 [.tmp 2] [0] Tryz.func73 Z Z Z Z Z ?_; refine B1 hf fun x1 h1 hf=>W 3 Z (CL Z (Tz _ h1 (J 1 Z (C hf Z (fun h2 hf=>?_) fun h2 hf=>?_))))
 · cases hf; exact M 1 Z (Y Z h)
 refine BR hf fun x2 h3 hf=>?_; refine W 1 Z (CL Z (Tq _ _ h3 ?_)); cases hf; exact N 1 Z (Y Z h)
theorem UZ (iK:List av) {r0:ah} {r1:Int} {r2:Int} (hf:Em iK=some (r0,r1,r2)) (h:Q (.ret (.tuple [.agg (bn r0),iP r1,iP r2])) τ):PC 68 [.list (List.map av.cells iK)] τ Q:=by
 unfold Em at hf; refine BN 28 [.cell 2 37,.tmp 3,.tmp 4] [0] Tryz.func68 Z Z Z Z Z (W 0 Z (AS Z (AO.aN Z iq (fun b2=>?_)))); obtain ⟨x1,cZ,e1,h1,hf⟩:=eD hf; refine U 3 Z (CL Z (KE _ _ h1 (U 4 Z (AS Z (AO.aN Z iq (fun b5=>(Rw 5 [0] Z Z (C hf Z (fun h2 hf=>?_) fun h2 hf=>?_))))))))
 · cases hf; exact Wx 6 [1] Z Z (ZC [1] Z Z h)
 refine B1 hf fun f1 h3 hf=>Wr 1 [0] Z Z (CL Z (Tv _ h3 (J 3 Z (C hf Z (fun h4 hf=>?_) fun h4 hf=>?_))))
 · cases hf; exact Wx 5 [1] Z Z (ZC [1] Z Z h)
 cases hf; exact Wx 5 [0,1] Z Z (ZC [1] Z Z h)
theorem Tw (bN:Str) {r0:ah} {r1:Int} {r2:Int} (hf:BL bN=some (r0,r1,r2)) (h:Q (.ret (.tuple [.agg (bn r0),iP r1,iP r2])) τ):PC 34 [.str bN] τ Q:=by
 unfold BL at hf; refine BN 53 [.cell 2 37,.tmp 3,.tmp 4] [0] Tryz.func34 Z Z Z Z Z (W 0 Z (AS Z (AO.aN Z iq (fun b2=>?_)))); obtain ⟨iK,cZ,e1,h1,hf⟩:=eD hf; refine U 3 Z (CL Z (Q6 _ h1 (J 9 Z (C hf Z (fun h2 hf=>?_) fun h2 hf=>?_))))
 · cases hf; exact Wx 6 [0] Z Z (ZC [0] Z Z h)
 obtain ⟨x1,n1,e2,h3,hf⟩:=eD hf; refine W 1 Z (CL Z (UZ _ h3 (U 4 Z (AS Z (AO.aN Z iq (fun b8=>(Rr 6 [0] Z Z (AR.and 5 29 34 [0,2,5,7,8,9] (x:=(n1 == (iK.length:Int))) Z Z (fun h4=>?_) (fun h4=>?_) ?_))))))))
 · refine Is 29 h4 Z (U 2 Z (GO Z (AO.aU (l:=iK) Z Z Z Z gX Z Z ?_))); exact dP 2 Z (En [34,0,2,5,7,8,9] Z)
 · refine Is 29 h4 Z ?_; exact dP 5 Z (En [34,0,2,5,7,8,9] Z)
 refine J 0 Z (C hf Z (fun h5 hf=>?_) fun h5 hf=>?_)
 · cases hf; exact Wx 4 [0,1] Z Z (ZC [1] Z Z h)
 refine V 2 Z (C hf Z (fun h6 hf=>?_) fun h6 hf=>?_)
 ·
  refine W 3 Z (AS Z (AO.aU (l:=iK) Z Z Z Z gX Z Z (J 1 Z (C hf Z (fun h7 hf=>?_) fun h7 hf=>?_))))
  ·
   refine V 0 Z (AW.J9 1 7 9 1 mixed (by kernel_rfl) (by kernel_rfl) (by kernel_rfl) Z Z Z Z ?_); refine Ev.cons Z Z Z (AO.build Z iq Ed Z zg) (Ev.nil ?_); show Ev _ _ _ _ _ _ _; refine Ev.cs bL 2 Z ?_; refine B1 hf fun e3 h8 hf=>Ev.cons Z Z Z (AO.bF h8 Z Z Z Z gX (av.aP _) Z zg) (Ev.cs bL 3 Z (Ev.nil (TF.dx Z Z (AO.eH (i:=0) Z Z Z iY Z Z Z Z Z ?_)))); refine TF.step Z Z Z (AO.calc' Z (TF.nil ?_)); show AR _ _ _ _ _ _ _ _; cases hf; exact N 1 Z (ZC [1] Z Z h)
  refine W 2 Z (AS Z (AO.bZ Z Z Z Z dh Z ?_)); cases hf; exact Rx 4 [1] Z Z (ZC [1] Z Z h)
 refine W 2 Z (AS Z (AO.aU (l:=iK) Z Z Z Z gX Z Z (J 1 Z (C hf Z (fun h9 hf=>?_) fun h9 hf=>?_))))
 ·
  refine V 0 Z (AW.J9 1 7 9 1 mixed (by kernel_rfl) (by kernel_rfl) (by kernel_rfl) Z Z Z Z ?_); refine Ev.cons Z Z Z (AO.build Z iq Ed Z zg) (Ev.nil ?_); show Ev _ _ _ _ _ _ _; refine Ev.cs bL 2 Z ?_; refine B1 hf fun e4 h10 hf=>Ev.cons Z Z Z (AO.bF h10 Z Z Z Z gX (av.aP _) Z zg) (Ev.cs bL 3 Z (Ev.nil (TF.dx Z Z (AO.eH (i:=0) Z Z Z iY Z Z Z Z Z ?_)))); refine TF.step Z Z Z (AO.calc' Z (TF.nil ?_)); show AR _ _ _ _ _ _ _ _; cases hf; exact N 1 Z (ZC [1] Z Z h)
 refine W 2 Z (AS Z (AO.bZ Z Z Z Z dh Z ?_)); cases hf; exact Rx 4 [1] Z Z (ZC [1] Z Z h)
theorem Tk (s1:Str) {r0:List aM} {r1:Int} {r2:Int} (hf:BG s1=some (r0,r1,r2)) (h:Q (.ret (.tuple [.list (List.map aM.cells r0),iP r1,iP r2])) τ):PC 12 [.str s1] τ Q:=by
 unfold BG at hf; refine AC.none (AC.kS 91 [.tmp 2,.tmp 3,.tmp 4] [0] Tryz.func12 Z Z Z Z Z (AW.sr (AR.step Z Z Z (AO.fq Z Z ?_)))); refine cs 2 Z (AR.nil [0] Z (AW.seq (AW.sr ?_))); refine cs 1 Z (AR.step Z Z Z (AO.bZ Z Z Z Z dh Z (cs 1 Z (AR.nil [0,13] Z ?_)))); refine AW.cond Z (fun h1=>?_) (fun h1=>?_)
 · replace hf:=jV h1 hf; refine AW.sr (AR.step Z Z Z (AO.fq Z Z (cs 2 Z (AR.nil [2,3,4] Z ?_)))); refine AW.ret ?_; cases hf; exact ⟨rfl,_,⟨_,_,rfl,rfl,_,_,rfl,rfl,_,_,rfl,rfl,rfl⟩,[],List.nil_sublist _,h⟩
 replace hf:=jg h1 hf; refine AW.skip (AW.sr (AR.step Z Z Z (AO.HY Z Z (AR.nil [0,5] Z ?_)))); refine AW.sr (cs 1 Z (AR.nil [0,5,6] Z (AW.seq ?_))); refine AW.block (AW.acU 12 39 (AW.settle [0,5,6] Z (AW.Uz (fun l1 v1 cZ=>[(0,.str s1),(5,.val v1),(6,iP cZ)]) (fun l1 v1 cZ=>[.buf v1 l1.length 12 39 (List.flatMap aM.cells l1)]) (fun dA l1 v1 cZ=>mQ s1 dA l1 cZ=some (r0,r1,r2)) BIG [] (.slice none 0 0) 0 Z Z hf (fun _ _ _ hz=>bI hz) ?_))); intro dA l1 v1 cZ hf; rw [mQ] at hf; refine AW.seq (AW.sr (cs 2 Z (AR.step Z Z Z (AO.bZ Z Z Z Z dh Z ?_)))); refine cs 1 Z (AR.nil [0,5,6,17] Z (AW.cond Z (fun h2=>?_) (fun h2=>?_)))
 ·
  replace hf:=jV h2 hf; refine AW.skip (AW.block (AW.seq (AW.sr ?_))); refine cs 2 Z ?_; refine B1 hf fun x1 h3 hf=>AR.step Z Z Z (AO.dB h3 Z dh Z Z (cs 2 Z (AR.or 6 22 28 [0,5,6] (x:=(decide ((s1.length:Int)≤(bV (cZ + 1))))) Z Z (fun h4=>?_) (fun h4=>?_) ?_)))
  · refine AR.is 22 h4 Z (cs 3 Z (AR.go Z Z Z Z Z Z (AO.bZ Z Z Z Z dh Z (cs 2 Z ?_)))); refine AR.nil [28,0,5,6] Z ?_; exact ⟨Z,Z,Z,Z⟩
  · refine AR.is 22 h4 Z (cs 6 Z (AR.nil [28,0,5,6] Z ?_)); exact ⟨Z,Z,Z,Z⟩
  refine cs 1 Z ?_; refine B1 hf fun b1 h6 hf=>AR.dH 13 29 42 false [0,5,6] b1 Z Z (fun h5=>?_) (fun h5=>?_) ?_
  ·
   replace h6:=jg h5 h6; refine AR.is 29 h5 Z (cs 3 Z ?_); refine B1 h6 fun x2 h7 h6=>AR.go Z Z Z Z Z Z (AO.dB h7 Z dh Z Z (cs 2 Z ?_)); refine BR h6 fun b2 h9 h6=>?_; refine AR.dH 6 35 41 true [0,5,6,29] b2 Z Z (fun h8=>?_) (fun h8=>?_) ?_
   · replace h9:=jV h8 h9; refine AR.is 35 h8 Z (cs 3 Z ?_); refine B1 h9 fun x3 h10 h9=>AR.go Z Z Z Z Z Z (AO.dB h10 Z dh Z Z (cs 1 Z ?_)); cases h9; refine cs 1 Z (AR.nil [41,0,5,6,29] Z ?_); exact ⟨Z,Z,Z,Z⟩
   · replace h9:=jg h8 h9; refine AR.is 35 h8 Z ?_; cases h9; refine cs 6 Z (AR.nil [41,0,5,6,29] Z ?_); exact ⟨Z,Z,Z,Z⟩
   cases h6; refine cs 1 Z (AR.nil [42,0,5,6] Z ?_); exact ⟨Z,Z,Z,Z⟩
  · replace h6:=jV h5 h6; refine AR.is 29 h5 Z ?_; cases h6; refine cs 13 Z (AR.nil [42,0,5,6] Z ?_); exact ⟨Z,Z,Z,Z⟩
  refine AR.nil [0,5,6,42] Z (AW.cond Z (fun h11=>?_) (fun h11=>?_))
  · replace hf:=jV h11 hf; refine B1 hf fun c1 hw1 hf=>B1 hf fun l2 hw2 hf=>AW.sr (cs 3 Z (AR.step Z Z Z (AO.dB hw1 Z dh Z Z (AR.step Z Z Z (AO.call Z _ Z Z aa4 (Nb _ _ hw2 (fun v2=>?_))))))); refine cs 1 Z (AR.nil [0,5,6] Z (AW.sr (cs 3 Z ?_))); refine AR.nil [0,5,6] Z (AW.exit ?_); exact ⟨l2,v2,(bV (cZ + 1)),Z,Z,Z,hf⟩
  replace hf:=jg h11 hf; refine AW.skip (AW.seq (AW.sr (cs 3 Z ?_))); refine B1 hf fun x4 h12 hf=>AR.step Z Z Z (AO.dB h12 Z dh Z Z (cs 1 Z (AR.nil [0,5,6,54] Z (AW.cond Z (fun kL=>?_) (fun kL=>?_)))))
  · replace hf:=jV kL hf; refine B1 hf fun l2 hw2 hf=>AW.sr (cs 1 Z (AR.step Z Z Z (AO.call Z _ Z Z aa4 (Nb _ _ hw2 (fun v2=>(cs 1 Z ?_)))))); refine AR.nil [0,5,6] Z (AW.sr (cs 3 Z (AR.nil [0,5,6] Z ?_))); refine AW.exit ?_; exact ⟨l2,v2,(bV (cZ + 2)),Z,Z,Z,hf⟩
  replace hf:=jg kL hf; refine AW.skip (AW.sr (cs 3 Z ?_)); refine B1 hf fun qx lD hf=>AR.step Z Z Z (AO.call Z _ Z Z adV (OC _ _ lD (cs 1 Z (AR.nil [0,5,6,7] Z (AW.seq ?_))))); refine AW.sr (cs 2 Z (AR.nil [0,5,6,7,64] Z (AW.cond Z (fun nT=>?_) (fun nT=>?_))))
  · replace hf:=jV nT hf; refine AW.sr (cs 1 Z (AR.step Z Z Z (AO.fq Z Z (cs 2 Z ?_)))); refine AR.nil [2,3,4] Z (AW.ret ?_); cases hf; exact ⟨rfl,_,⟨_,_,rfl,rfl,_,_,rfl,rfl,_,_,rfl,rfl,rfl⟩,[],List.nil_sublist _,h⟩
  replace hf:=jg nT hf; refine AW.skip (AW.sr (cs 4 Z ?_)); refine B1 hf fun x5 h16 hf=>AR.step Z Z Z (AO.mP h16 Z dh Z ⟨_,Z⟩ ⟨_,Z⟩ ?_); obtain ⟨x6,wO,e1,wP,hf⟩:=eD hf; refine AR.step Z Z Z (AO.call Z _ Z Z adU (Tw _ wP (cs 4 Z (AR.step Z Z Z (AO.aN Z iq (fun b8=>(AR.dx Z Z (AO.eH (i:=0) Z Z Z iY Z Z Z Z Z ?_)))))))); refine cs 2 Z (AR.nil [0,5,6,7,8,9,10] Z (AW.seq (AW.sr ?_))); refine cs 2 Z (AR.nil [0,5,6,7,8,9,10,77] Z (AW.cond Z (fun h18=>?_) (fun h18=>?_)))
  · replace hf:=jV h18 hf; refine AW.sr (cs 5 Z (AR.step Z Z Z (AO.fq Z Z (cs 2 Z ?_)))); refine AR.nil [2,3,4] Z (AW.ret ?_); cases hf; exact ⟨rfl,_,⟨_,_,rfl,rfl,_,_,rfl,rfl,_,_,rfl,rfl,rfl⟩,[],List.nil_sublist _,h⟩
  replace hf:=jg h18 hf; refine AW.skip (AW.sr (cs 1 Z (AR.step Z Z Z (AO.dW (i:=0) Z Z Z iY Z Z ?_)))); refine AR.step rfl rfl rfl (AO.build rfl KZ Qa rfl (AR.step rfl rfl rfl (AO.dw (List.map aM.cells [(aM.mk ([]:Str) true x6)]) rfl JV rfl rfl rfl (by first | rfl | simp only [List.map,aM.aP]) ?_))); refine B1 hf fun l2 h19 hf=>?_; obtain ⟨Ic,rfl⟩:=Co h19
  refine AR.step Z Z Z (AO.NM (i:=1) (l2:=List.map aM.cells [(aM.mk ([]:Str) true x6)]) Z Z Z Z Z Z Z JV nM (by intro y hy; cases List.mem_singleton.1 hy; exact aM.fu _) (by intro y hy; cases List.mem_singleton.1 hy; exact aM.cells_one _) (by simp only [List.map_cons,List.map_nil,List.length_singleton] at Ic ⊢; unfold Gm at Ic; unfold maxLen; omega) (by simp only [List.map_cons,List.map_nil,List.length_singleton] at Ic ⊢; unfold Gm at Ic; omega) (fun v2 s2 hs2=>?_)); cases hs2; refine cs 1 Z (AR.nil [0,5,7] Z (AW.region (cs 3 Z ?_))); refine AR.drop1 (AR.nil [0,5,6] Z ?_); exact ⟨l1 ++ [(aM.mk ([]:Str) true x6)],v2,(bV (qx + 1)),Z,by simp [List.flatMap_append],Z,hf⟩
 replace hf:=jg h2 hf; refine AW.exit (AW.freeze 5 0 (List.map aM.cells l1) Z Z (by rw [List.flatMap_def]) (by intro x hx; obtain ⟨y,_,rfl⟩:=List.mem_map.1 hx; exact aM.fu y) (by rw [List.length_map]) ?_); refine AW.sr (cs 4 Z (AR.nil [2,3,4] Z (AW.ret ?_))); cases hf; exact ⟨rfl,_,⟨_,_,rfl,rfl,_,_,rfl,rfl,_,_,rfl,rfl,rfl⟩,[],List.nil_sublist _,h⟩
theorem uV (KX:Bool) {r0:Int} (hf:l7 KX=some r0) (h:Q (.ret (iP r0)) τ):PC 181 [.bool KX] τ Q:=by
 unfold l7 at hf; refine BN 4 [.tmp 2] [0] Tryz.func181 Z Z Z Z Z (V 2 Z (C hf Z (fun h1 hf=>?_) fun h1 hf=>?_))
 · cases hf; exact M 1 Z (Y Z h)
 cases hf; exact M 1 Z (Y Z h)
theorem TD (a1:List Str) (b1:List Str) {r0:Int} (hf:BS a1 b1=some r0) (h:Q (.ret (iP r0)) τ):PC 183 [sP a1,sP b1] τ Q:=by
 unfold BS at hf; refine BN 44 [.tmp 4] [0,1] Tryz.func183 Z Z Z Z Z (V 2 Z (FT (fun i1=>[(0,sP a1),(1,sP b1),(5,iP i1)]) (fun i1=>[]) (fun dA i1=>sM a1 b1 dA i1=some r0) BIG 0 Z Z hf (fun _ hz=>bI hz) ?_)); intro dA i1 hf; rw [sM] at hf; refine W 2 Z (AS Z (AO.aU (l:=a1) Z Z Z Z iy Z Z (U 2 Z (AR.and 5 11 16 [0,1,5] (x:=(decide (i1 < (b1.length:Int)))) Z Z (fun h1=>?_) (fun h1=>?_) ?_))))
 · refine Is 11 h1 Z (U 2 Z (GO Z (AO.aU (l:=b1) Z Z Z Z iy Z Z ?_))); exact dP 2 Z (En [16,0,1,5] Z)
 · refine Is 11 h1 Z ?_; exact dP 5 Z (En [16,0,1,5] Z)
 refine J 0 Z (C hf Z (fun h2 hf=>?_) fun h2 hf=>?_)
 ·
  refine V 0 Z (AW.draw 10 mixed (by kernel_rfl) Z ?_); refine Ev.cs bL 2 Z ?_; refine B1 hf fun e1 h3 hf=>Ev.cons Z Z Z (AO.bF h3 Z Z Z Z iy Z Z zg) (Ev.cs bL 3 Z ?_); refine B1 hf fun e2 h4 hf=>Ev.cons Z Z Z (AO.bF h4 Z Z Z Z iy Z Z zg) (Ev.cs bL 1 Z ?_); refine B1 hf fun c1 h5 hf=>Ev.cons Z Z Z (AO.call Z _ Z Z aaZ (Gg _ _ h5 zg)) (Ev.cs bL 1 Z (Ev.nil ?_)); show AR _ _ _ _ _ _ _ _; refine J 2 Z (C hf Z (fun h6 hf=>?_) fun h6 hf=>?_)
  · refine BR hf fun x1 h7 hf=>?_; refine W 2 Z (CL Z (uV _ h7 ?_)); cases hf; exact N 1 Z (Y Z h)
  exact M 3 Z ⟨(bV (i1 + 1)),Z,Z,Z,hf⟩
 refine W 1 Z (AS Z (AO.aU (l:=a1) Z Z Z Z iy Z Z (U 1 Z (AS Z (AO.aU (l:=b1) Z Z Z Z iy Z Z (J 1 Z (C hf Z (fun h8 hf=>?_) fun h8 hf=>?_)))))))
 · cases hf; exact M 1 Z (Y Z h)
 refine W 1 Z (AS Z (AO.aU (l:=a1) Z Z Z Z iy Z Z (U 1 Z (AS Z (AO.aU (l:=b1) Z Z Z Z iy Z Z ?_))))); refine BR hf fun x2 h9 hf=>?_; refine U 1 Z (CL Z (uV _ h9 ?_)); cases hf; exact N 1 Z (Y Z h)
abbrev Bu (iC:ak→ak→Option Int):Prop:=∀ (tJ:ak) (tH:ak) {aV:Int},iC tJ tH=some aV→∀ {τ:List bA} {Q:eT→List bA→Prop} (h:Q (.ret (iP aV)) τ),PC 107 [.agg (bK tJ),.agg (bK tH)] τ Q
abbrev Fj (kT:List ak→List ak→Option Int):Prop:=∀ (tJ:List ak) (tH:List ak) {aV:Int},kT tJ tH=some aV→∀ {τ:List bA} {Q:eT→List bA→Prop} (h:Q (.ret (iP aV)) τ),PC 182 [.list (ak.bR tJ),.list (ak.bR tH)] τ Q
theorem NY (iC) (Dw:Bu iC) (kT) (Bn:Fj kT) (a1:ak) (b1:ak) {r0:Int} (hf:w9 iC kT a1 b1=some r0) (h:Q (.ret (iP r0)) τ):PC 107 [.agg (bK a1),.agg (bK b1)] τ Q:=by
 unfold w9 at hf; refine BN 77 [.tmp 4] [0,1] Tryz.func107 Z Z Z Z Z (V 8 Z (C hf Z (fun h1 hf=>?_) fun h1 hf=>?_))
 · refine BR hf fun x1 h2 hf=>?_; refine W 5 Z (CL Z (uV _ h2 ?_)); cases hf; exact N 1 Z (Y Z h)
 refine V 4 Z (C hf Z (fun h3 hf=>?_) fun h3 hf=>?_)
 ·
  refine W 4 Z (AS Z (AO.NJ Z abD Z Z (J 0 Z (C hf Z (fun h4 hf=>?_) fun h4 hf=>?_))))
  · refine BR hf fun x2 h5 hf=>?_; refine W 2 Z (CL Z (uV _ h5 ?_)); cases hf; exact N 1 Z (Y Z h)
  cases hf; exact M 1 Z (Y Z h)
 refine V 2 Z (C hf Z (fun h6 hf=>?_) fun h6 hf=>?_)
 ·
  refine V 5 Z (C hf Z (fun h7 hf=>?_) fun h7 hf=>?_)
  · refine BR hf fun x3 h8 hf=>?_; refine W 5 Z (CL Z (uV _ h8 ?_)); cases hf; exact N 1 Z (Y Z h)
  cases hf; exact M 1 Z (Y Z h)
 refine V 2 Z (C hf Z (fun h9 hf=>?_) fun h9 hf=>?_)
 ·
  refine V 5 Z (C hf Z (fun h10 hf=>?_) fun h10 hf=>?_)
  · refine BR hf fun x4 h11 hf=>?_; refine W 5 Z (CL Z (uV _ h11 ?_)); cases hf; exact N 1 Z (Y Z h)
  cases hf; exact M 1 Z (Y Z h)
 refine V 2 Z (C hf Z (fun h12 hf=>?_) fun h12 hf=>?_)
 · refine BR hf fun x5 kL hf=>?_; refine W 4 Z (CL Z (Bn _ _ kL ?_)); cases hf; exact N 1 Z (Y Z h)
 refine V 2 Z (C hf Z (fun lD hf=>?_) fun lD hf=>?_)
 ·
  refine B1 hf fun c1 nT hf=>W 4 Z (CL Z (TD _ _ nT (J 3 Z (C hf Z (fun h16 hf=>?_) fun h16 hf=>?_))))
  · cases hf; exact M 2 Z (Y Z h)
  refine BR hf fun x6 wP hf=>?_; refine W 4 Z (CL Z (Bn _ _ wP ?_)); cases hf; exact N 1 Z (Y Z h)
 cases hf; exact M 1 Z (Y Z h)
theorem RD (iC) (Dw:Bu iC) (kT) (Bn:Fj kT) (a1:List ak) (b1:List ak) {r0:Int} (hf:Ap iC kT a1 b1=some r0) (h:Q (.ret (iP r0)) τ):PC 182 [.list (ak.bR a1),.list (ak.bR b1)] τ Q:=by
 unfold Ap at hf; refine BN 42 [.tmp 4] [0,1] Tryz.func182 Z Z Z Z Z (V 2 Z (FT (fun i1=>[(0,.list (ak.bR a1)),(1,.list (ak.bR b1)),(5,iP i1)]) (fun i1=>[]) (fun dA i1=>sN iC a1 b1 dA i1=some r0) BIG 0 Z Z hf (fun _ hz=>bI hz) ?_)); intro dA i1 hf; rw [sN] at hf; refine W 2 Z (AS Z (AO.aU (l:=a1) Z Z Z Z lC Z (ak.aO _) (U 2 Z (AR.and 5 11 16 [0,1,5] (x:=(decide (i1 < (b1.length:Int)))) Z Z (fun h1=>?_) (fun h1=>?_) ?_))))
 · refine Is 11 h1 Z (U 2 Z (GO Z (AO.aU (l:=b1) Z Z Z Z lC Z (ak.aO _) ?_))); exact dP 2 Z (En [16,0,1,5] Z)
 · refine Is 11 h1 Z ?_; exact dP 5 Z (En [16,0,1,5] Z)
 refine J 0 Z (C hf Z (fun h2 hf=>?_) fun h2 hf=>?_)
 ·
  refine V 0 Z (AW.draw 10 mixed (by kernel_rfl) Z ?_); refine Ev.cs bL 2 Z ?_; refine B1 hf fun e1 h3 hf=>Ev.cons Z Z Z (AO.bF h3 Z Z (ak.aO _) Z lC (ak.aP _) Z zg) (Ev.cs bL 3 Z ?_); refine B1 hf fun e2 h4 hf=>Ev.cons Z Z Z (AO.bF h4 Z Z (ak.aO _) Z lC (ak.aP _) Z zg) (Ev.cs bL 1 Z ?_); refine B1 hf fun c1 h5 hf=>Ev.cons Z Z Z (AO.call Z _ Z Z acv (Dw _ _ h5 zg)) (Ev.cs bL 1 Z (Ev.nil ?_)); show AR _ _ _ _ _ _ _ _; refine J 2 Z (C hf Z (fun h6 hf=>?_) fun h6 hf=>?_)
  · cases hf; exact M 2 Z (Y Z h)
  exact M 3 Z ⟨(bV (i1 + 1)),Z,Z,Z,hf⟩
 refine W 1 Z (AS Z (AO.aU (l:=a1) Z Z Z Z lC Z (ak.aO _) (U 1 Z (AS Z (AO.aU (l:=b1) Z Z Z Z lC Z (ak.aO _) (J 1 Z (C hf Z (fun h7 hf=>?_) fun h7 hf=>?_)))))))
 · cases hf; exact M 1 Z (Y Z h)
 refine W 1 Z (AS Z (AO.aU (l:=a1) Z Z Z Z lC Z (ak.aO _) (U 1 Z (AS Z (AO.aU (l:=b1) Z Z Z Z lC Z (ak.aO _) ?_))))); refine BR hf fun x1 h8 hf=>?_; refine U 1 Z (CL Z (uV _ h8 ?_)); cases hf; exact N 1 Z (Y Z h)
theorem Ga :∀ k:Nat,(Bu (jF k))∧(Fj (qb k)):=by
 intro k
 induction k with
 | zero=>exact ⟨fun _ _ _ hz=>by first | cases hz | (unfold jF at hz; cases hz),fun _ _ _ hz=>by first | cases hz | (unfold qb at hz; cases hz)⟩
 | succ k ih=>exact ⟨fun tJ tH aV hz τ Q hq=>NY (jF k) ih.1 (qb k) ih.2 tJ tH hz hq,fun tJ tH aV hz τ Q hq=>RD (jF k) ih.1 (qb k) ih.2 tJ tH hz hq⟩
theorem OE (tJ:ak) (tH:ak) {aV:Int} (hf:Ar tJ tH=some aV) (h:Q (.ret (iP aV)) τ):PC 107 [.agg (bK tJ),.agg (bK tH)] τ Q:=
 ((Ga BIG).1) tJ tH hf h
theorem abt (tJ:List ak) (tH:List ak) {aV:Int} (hf:Wz tJ tH=some aV) (h:Q (.ret (iP aV)) τ):PC 182 [.list (ak.bR tJ),.list (ak.bR tH)] τ Q:=
 ((Ga BIG).2) tJ tH hf h
theorem TI (a1:ak) (b1:ak) {r0:Bool} (hf:za a1 b1=some r0) (h:Q (.ret (.bool r0)) τ):PC 69 [.agg (bK a1),.agg (bK b1)] τ Q:=by
 unfold za at hf; refine BN 9 [.tmp 4] [0,1] Tryz.func69 Z Z Z Z Z ?_; refine B1 hf fun x1 h1 hf=>W 5 Z (CL Z (OE _ _ h1 ?_)); cases hf; exact N 2 Z (Y Z h)
abbrev Ki (jl:ah→ah→Option Bool):Prop:=∀ (tJ:ah) (tH:ah) {aV:Bool},jl tJ tH=some aV→∀ {τ:List bA} {Q:eT→List bA→Prop} (h:Q (.ret (.bool aV)) τ),PC 35 [.agg (bn tJ),.agg (bn tH)] τ Q
theorem RA (jl) (Oo:Ki jl) (a1:ah) (b1:ah) {r0:Bool} (hf:xF jl a1 b1=some r0) (h:Q (.ret (.bool r0)) τ):PC 35 [.agg (bn a1),.agg (bn b1)] τ Q:=by
 unfold xF at hf; refine BN 82 [.tmp 4] [0,1] Tryz.func35 Z Z Z Z Z (W 9 Z (On 6 12 18 [2,3] (!(a1.name == b1.name)) Z Z Z Z (U 1 Z (AR.or 8 19 27 [2,3] (x:=((a1.keys.length:Int) != (b1.keys.length:Int))) Z Z (fun h2=>?_) (fun h2=>?_) ?_))))
 · refine Is 19 h2 Z (U 2 Z (GO Z (AO.aU (l:=a1.keys) Z Z Z Z iy Z Z (U 2 Z (GO Z (AO.aU (l:=b1.keys) Z Z Z Z iy Z Z ?_)))))); exact dP 2 Z (En [27,2,3] Z)
 · refine Is 19 h2 Z ?_; exact dP 8 Z (En [27,2,3] Z)
 refine U 1 Z (AR.or 8 28 36 [2,3] (x:=((a1.args.length:Int) != (b1.args.length:Int))) Z Z (fun h3=>?_) (fun h3=>?_) ?_)
 · refine Is 28 h3 Z (U 2 Z (GO Z (AO.aU (l:=a1.args) Z Z Z Z iI Z (ah.aO _) (U 2 Z (GO Z (AO.aU (l:=b1.args) Z Z Z Z iI Z (ah.aO _) ?_)))))); exact dP 2 Z (En [36,2,3] Z)
 · refine Is 28 h3 Z ?_; exact dP 8 Z (En [36,2,3] Z)
 refine B1 hf fun b2 h5 hf=>U 1 Z (AR.dH 7 37 44 false [2,3] b2 Z Z (fun h4=>?_) (fun h4=>?_) ?_)
 · refine IF 37 h4 h5 Z fun h5=>?_; refine B1 h5 fun x1 h6 h5=>U 4 Z (GO Z (AO.call Z _ Z Z adN (TI _ _ h6 ?_))); cases h5; exact dP 2 Z (En [44,2,3] Z)
 · refine IT 37 h4 h5 Z fun h5=>?_; cases h5; exact dP 7 Z (En [44,2,3] Z)
 refine J 0 Z (C hf Z (fun h7 hf=>?_) fun h7 hf=>?_)
 · cases hf; exact M 1 Z (Y Z h)
 refine V 1 Z (FT (fun i1=>[(2,.ref (bn a1)),(3,.ref (bn b1)),(5,iP i1)]) (fun i1=>[]) (fun dA i1=>vM jl a1 b1 dA i1=some r0) BIG 0 Z Z hf (fun _ hz=>bI hz) ?_); intro dA i1 hf; rw [vM] at hf; refine W 3 Z (AS Z (AO.aU (l:=a1.keys) Z Z Z Z iy Z Z (J 1 Z (C hf Z (fun h8 hf=>?_) fun h8 hf=>?_))))
 ·
  refine V 0 Z (AW.draw 11 mixed (by kernel_rfl) Z ?_); refine Ev.cs bL 3 Z ?_; refine B1 hf fun e1 h9 hf=>Ev.cons Z Z Z (AO.bF h9 Z Z Z Z iy Z Z zg) (Ev.cs bL 4 Z ?_); refine B1 hf fun e2 h10 hf=>Ev.cons Z Z Z (AO.bF h10 Z Z Z Z iy Z Z zg) (Ev.cs bL 2 Z (Ev.nil ?_)); show AR _ _ _ _ _ _ _ _; refine J 0 Z (C hf Z (fun h11 hf=>?_) fun h11 hf=>?_)
  · cases hf; exact M 1 Z (Y Z h)
  exact M 3 Z ⟨(bV (i1 + 1)),Z,Z,Z,hf⟩
 refine V 1 Z (FT (fun i2=>[(2,.ref (bn a1)),(3,.ref (bn b1)),(6,iP i2)]) (fun i2=>[]) (fun Mw i2=>om jl a1 b1 Mw i2=some r0) BIG 0 Z Z hf (fun _ hz=>bI hz) ?_); intro Mw i2 hf; rw [om] at hf; refine W 3 Z (AS Z (AO.aU (l:=a1.args) Z Z Z Z iI Z (ah.aO _) (J 1 Z (C hf Z (fun h12 hf=>?_) fun h12 hf=>?_))))
 ·
  refine V 0 Z (AW.draw 12 mixed (by kernel_rfl) Z ?_); refine Ev.cs bL 3 Z ?_; refine B1 hf fun e3 kL hf=>Ev.cons Z Z Z (AO.bF kL Z Z (ah.aO _) Z iI (ah.aP _) Z zg) (Ev.cs bL 4 Z ?_); refine B1 hf fun e4 lD hf=>Ev.cons Z Z Z (AO.bF lD Z Z (ah.aO _) Z iI (ah.aP _) Z zg) (Ev.cs bL 1 Z ?_); refine B1 hf fun x2 nT hf=>Ev.cons Z Z Z (AO.call Z _ Z Z aa3 (Oo _ _ nT zg)) (Ev.cs bL 1 Z (Ev.nil ?_)); show AR _ _ _ _ _ _ _ _; refine J 0 Z (C hf Z (fun h16 hf=>?_) fun h16 hf=>?_)
  · cases hf; exact M 1 Z (Y Z h)
  exact M 3 Z ⟨(bV (i2 + 1)),Z,Z,Z,hf⟩
 cases hf; exact M 1 Z (Y Z h)
theorem Sw :∀ k:Nat,(Ki (rT k)):=by
 intro k
 induction k with
 | zero=>exact fun _ _ _ hz=>by first | cases hz | (unfold rT at hz; cases hz)
 | succ k ih=>exact fun tJ tH aV hz τ Q hq=>RA (rT k) ih tJ tH hz hq
theorem Tx (tJ:ah) (tH:ah) {aV:Bool} (hf:FD tJ tH=some aV) (h:Q (.ret (.bool aV)) τ):PC 35 [.agg (bn tJ),.agg (bn tH)] τ Q:=
 ((Sw BIG)) tJ tH hf h
theorem UY (a1:List aM) (b1:List aM) {r0:Bool} (hf:El a1 b1=some r0) (h:Q (.ret (.bool r0)) τ):PC 13 [.list (List.map aM.cells a1),.list (List.map aM.cells b1)] τ Q:=by
 unfold El at hf; refine BN 55 [.tmp 4] [0,1] Tryz.func13 Z Z Z Z Z (W 2 Z (AS Z (AO.aU (l:=a1) Z Z Z Z nM Z Z (U 1 Z (AS Z (AO.aU (l:=b1) Z Z Z Z nM Z Z (J 1 Z (C hf Z (fun h1 hf=>?_) fun h1 hf=>?_))))))))
 · cases hf; exact M 1 Z (Y Z h)
 refine V 1 Z (FT (fun i1=>[(0,.list (List.map aM.cells a1)),(1,.list (List.map aM.cells b1)),(5,iP i1)]) (fun i1=>[]) (fun dA i1=>vg a1 b1 dA i1=some r0) BIG 0 Z Z hf (fun _ hz=>bI hz) ?_); intro dA i1 hf; rw [vg] at hf; refine W 2 Z (AS Z (AO.aU (l:=a1) Z Z Z Z nM Z Z (J 1 Z (C hf Z (fun h2 hf=>?_) fun h2 hf=>?_))))
 ·
  refine V 0 Z (AW.draw 38 mixed (by kernel_rfl) Z ?_); refine Ev.cs bL 2 Z ?_; refine B1 hf fun e1 h3 hf=>Ev.cons Z Z Z (AO.bF h3 Z Z Z Z nM (aM.aP _) Z zg) (Ev.cs bL 4 Z ?_); refine B1 hf fun e2 h4 hf=>Ev.cons Z Z Z (AO.bF h4 Z Z Z Z nM (aM.aP _) Z zg) (Ev.cs bL 2 Z (Ev.cons Z Z Z (AO.NJ Z abD Z Z zg) (Ev.cs bL 1 Z ?_))); refine B1 hf fun b2 h6 hf=>Ev.dH hKA 12 28 40 false [0,1,5] (.bool b2) Z Z (fun h5=>?_) (fun h5=>?_) ?_
  · replace h6:=jg h5 h6; refine Ev.is WW 28 h5 Z (Ev.cs bL 2 Z ?_); refine B1 h6 fun e3 h7 h6=>Ev.run Z Z Z Z Z Z Z (AO.bF h7 Z Z Z Z nM (aM.aP _) Z zg) (Ev.cs bL 4 Z ?_); refine B1 h6 fun e4 h8 h6=>Ev.run Z Z Z Z Z Z Z (AO.bF h8 Z Z Z Z nM (aM.aP _) Z zg) (Ev.cs bL 3 Z ?_); cases h6; refine Ev.cs bL 1 Z ?_; exact Ev.nil (Less.settle (ps:=[40,0,1,5]) Z)
  · replace h6:=jV h5 h6; refine Ev.is WW 28 h5 Z ?_; cases h6; refine Ev.cs bL 12 Z ?_; exact Ev.nil (Less.settle (ps:=[40,0,1,5]) Z)
  refine Ev.cs bL 1 Z ?_; refine B1 hf fun b3 h10 hf=>Ev.dH hKA 13 41 54 false [0,1,5] (.bool b3) Z Z (fun h9=>?_) (fun h9=>?_) ?_
  ·
   replace h10:=jg h9 h10; refine Ev.is WW 41 h9 Z (Ev.cs bL 2 Z ?_); refine B1 h10 fun e5 h11 h10=>Ev.run Z Z Z Z Z Z Z (AO.bF h11 Z Z Z Z nM (aM.aP _) Z zg) (Ev.cs bL 4 Z ?_); refine B1 h10 fun e6 h12 h10=>Ev.run Z Z Z Z Z Z Z (AO.bF h12 Z Z Z Z nM (aM.aP _) Z zg) (Ev.cs bL 2 Z ?_); refine B1 h10 fun x1 kL h10=>Ev.run Z Z Z Z Z Z Z (AO.call Z _ Z Z aa3 (Tx _ _ kL zg)) (Ev.cs bL 1 Z ?_); cases h10; refine Ev.cs bL 1 Z ?_; exact Ev.nil (Less.settle (ps:=[54,0,1,5]) Z)
  · replace h10:=jV h9 h10; refine Ev.is WW 41 h9 Z ?_; cases h10; refine Ev.cs bL 13 Z ?_; exact Ev.nil (Less.settle (ps:=[54,0,1,5]) Z)
  refine Ev.nil ?_; show AR _ _ _ _ _ _ _ _; refine J 0 Z (C hf Z (fun lD hf=>?_) fun lD hf=>?_)
  · cases hf; exact M 1 Z (Y Z h)
  exact M 3 Z ⟨(bV (i1 + 1)),Z,Z,Z,hf⟩
 cases hf; exact M 1 Z (Y Z h)
section
variable [DU]
theorem Ip (s1:Str) {r0:Bool} (hf:uK s1=some r0) (h:Q (.ret (.bool r0)) τ):PC 3 [.str s1] τ Q:=by
 unfold uK at hf; refine BN 41 [.tmp 2] [0] Tryz.func3 Z Z Z Z Z (W 2 Z (AS Z (AO.bZ Z Z Z Z dh Z (J 1 Z (C hf Z (fun h1 hf=>?_) fun h1 hf=>?_)))))
 · refine BR hf fun x1 h2 hf=>?_; refine W 0 Z (CL Z (Ka  h2 ?_)); cases hf; exact N 1 Z (Y Z h)
 obtain ⟨l1,cZ,e1,h3,hf⟩:=eD hf; refine W 1 Z (CL Z (pV _ h3 ?_)); obtain ⟨m1,wO,f1,h4,hf⟩:=eD hf; refine U 8 Z (CL Z (Tk _ h4 ?_)); refine B1 hf fun x2 h5 hf=>U 9 Z (CL Z (UY _ _ h5 (U 1 Z (An 4 28 32 [5,8] (cZ == wO) Z Z Z Z (U 1 Z (An 4 33 37 [] (e1 == f1) Z Z Z Z ?_)))))); refine BR hf fun b1 h9 hf=>?_; refine U 1 Z (AR.dH 2 38 40 true [] b1 Z Z (fun h8=>?_) (fun h8=>?_) ?_)
 · refine IT 38 h8 h9 Z fun h9=>?_; refine BR h9 fun x3 h10 h9=>?_; refine GO Z (AO.call Z _ Z Z adZ (Ka  h10 ?_)); cases h9; exact dP 1 Z (En [40] Z)
 · refine IF 38 h8 h9 Z fun h9=>?_; cases h9; exact dP 2 Z (En [40] Z)
 cases hf; exact N 1 Z (Y Z h)
end
end Go.Proofs.YtpbjbkhfpjckoaaGreatDoor
