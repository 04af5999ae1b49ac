/- Proved here: each function does what its functional text says (part 3). -/
import Derived.Test.YtcohpegjnpcgcaaGreatDoorTvWalk2
set_option linter.unusedVariables false
set_option linter.unusedSimpArgs false
set_option linter.unusedSectionVars false
namespace Go.Proofs.YtcohpegjnpcgcaaGreatDoor
open Go Go.Abs Go.Ft
set_option maxRecDepth 20000
attribute [local irreducible] AO AR AW AC
variable [iJ]
variable {τ : List bf} {Q : dx → List bf → Prop}
section
variable [Am]
abbrev qw (bL:aH→au→Int→Option (au × Int × aH)):Prop:=∀ (mE:Nat) (Pk:aH) (oz:au) (lN:Int) {aZ:au} {rW:Int} {Nw:aH},bL Pk oz lN=some (aZ,rW,Nw)→∀ {Q:dx→List bf→Prop} (h:Q (.ret (.tuple [.agg (dY aZ),iP rW])) [.box mE (eU Nw)]),PC 54 [pP mE,.agg (dY oz),iP lN] [.box mE (eU Pk)] Q
abbrev pO (bY:aH→au→Int→Option (au × Int × aH)):Prop:=∀ (mE:Nat) (Pk:aH) (Hg:au) (lN:Int) {aZ:au} {rW:Int} {Nw:aH},bY Pk Hg lN=some (aZ,rW,Nw)→∀ {Q:dx→List bf→Prop} (h:Q (.ret (.tuple [.agg (dY aZ),iP rW])) [.box mE (eU Nw)]),PC 55 [pP mE,.agg (dY Hg),iP lN] [.box mE (eU Pk)] Q
theorem Du (bL) (oV:qw bL) (bY) (tK:pO bY) (p1:Nat) (x1:aH) (b1:au) (oZ:Int) {r0:au} {r1:Int} {x1s:aH} (hf:jB bL bY x1 b1 oZ=some (r0,r1,x1s)) {Q:dx→List bf→Prop} (h:Q (.ret (.tuple [.agg (dY r0),iP r1])) [.box p1 (eU x1s)]):PC 54 [pP p1,.agg (dY b1),iP oZ] [.box p1 (eU x1)] Q:=by
 unfold jB at hf; refine AC.jX 96 [.cell 6 38,.tmp 7] [0,1,2] Tryz.func54 Z Z Z Z Z (AW.sr (AR.step Z Z Z (AO.Dc Z Z Z (AR.step Z Z Z (AO.aC Z nP (fun b6=>?_)))))); refine cs 1 Z (AR.nil [0,2,4,6] Z (AW.seq ?_)); refine B1 hf fun x2 h1 hf=>?_
 refine AW.Ze 6 9 [] [.box b6 [.str ([]:Str),.str ([]:Str),.own (.slice none 0 0) [],.own (.slice none 0 0) []],.box p1 (eU x1)] (fun S e s=>∃ (v1:Value) (b8:Nat),(S 7=true→S 6=true)∧e.get 0=pP p1∧e.get 2=iP oZ∧e.get 4=.ref (dY b1)∧e.get 6=pP b6∧e.get 20=.str b1.kind∧e.get 22=.str b1.name∧e.get 24=.list (List.map aK.cells b1.attrs)∧
  (S 6=true→e.get 25=.own v1 (List.map aK.cells x2))∧(S 7=true→e.get 26=.agg [.str b1.kind,.str b1.name,.own v1 (List.map aK.cells x2),.own (.slice none 0 0) []])∧(S 8=true→e.get 8=pP b8)∧
  s.Perm ((bif S 8 then [.box b8 [.str ([]:Str),.str ([]:Str),.own (.slice none 0 0) [],.own (.slice none 0 0) []]] else []) ++ ((bif S 6 then [.row v1 (List.map aK.cells x2).length 11 48] else []) ++ [.box b6 [.str ([]:Str),.str ([]:Str),.own (.slice none 0 0) [],.own (.slice none 0 0) []],.box p1 (eU x1)]))) mixed (by kernel_rfl) Z Z (List.Perm.refl _) ?_ ?_ ?_ ?_
 ·
  refine Ev.cs bC 6 Z (Ev.nil ?_); exact ⟨.nilIface,0,(fun h=>by cases h),Z,Z,Z,Z,Z,Z,Z,(fun h=>by cases h),(fun h=>by cases h),(fun h=>by cases h),List.Perm.refl _⟩
 ·
  rintro S S' e s hS ⟨v1,b8,w7,p0,p2,p4,p6,p20,p22,p24,q6,q7,q8,qs⟩; have z:=fun i h1 h2=>(hS i h1 h2).symm; refine ⟨v1,b8,?_,p0,p2,p4,p6,p20,p22,p24,?_,?_,?_,?_⟩
  ·
   rw [z 6 (by decide) (by decide),z 7 (by decide) (by decide)]; exact w7
  ·
   rw [z 6 (by decide) (by decide)]; exact q6
  ·
   rw [z 7 (by decide) (by decide)]; exact q7
  ·
   rw [z 8 (by decide) (by decide)]; exact q8
  ·
   rw [z 6 (by decide) (by decide),z 8 (by decide) (by decide)]; exact qs
 ·
  rintro S e s i o ⟨v1,b8,w7,p0,p2,p4,p6,p20,p22,p24,q6,q7,q8,qs⟩ hi1 hi2 Yk hp' ho; have hi:i=6∨i=7∨i=8:=by omega
  rcases hi with rfl | rfl | rfl
  ·
   cases ho; rw [Yk] at qs; have q7':S 7=true→False:=fun h7=>by have:=w7 h7; rw [Yk] at this; cases this
   refine ⟨Z,(fun t ht=>by cases ht; decide),AO.less (Less.add p24 Less.nil) (AO.aeb Z _ Z Z abk (AC.none (yc _ h1 (fun v2=>?_))))⟩; refine ⟨v2,b8,(fun _=>Z),p0,p2,p4,p6,p20,p22,p24,(fun _=>Z),(fun h7=>(q7' h7).elim),q8,?_⟩; cases h8:S 8 with
   | false=>
    rw [h8] at qs; simp only [h8,cond_false,cond_true,List.nil_append,if_true] at qs ⊢; exact qs.cons _
   | true=>
    rw [h8] at qs; simp only [h8,cond_false,cond_true,List.nil_append,if_true,List.cons_append,ite_self] at qs ⊢; exact (qs.cons _).trans (List.Perm.swap _ _ _)
  ·
   cases ho; have s6:=hp' 6 (any_beq.1 Z) (by decide); refine ⟨Z,(fun t ht=>by cases ht; decide),AO.less (Less.add p20 (Less.add p22 (Less.add (q6 s6) Less.nil))) (AO.build Z nP Lv Z ?_)⟩; exact ⟨v1,b8,(fun _=>s6),p0,p2,p4,p6,p20,p22,p24,q6,(fun _=>Z),q8,qs⟩
  ·
   cases ho; rw [Yk] at qs; refine ⟨Z,(fun t ht=>by cases ht; decide),AO.aC Z nP (fun b9=>?_)⟩; exact ⟨v1,b9,w7,p0,p2,p4,p6,p20,p22,p24,q6,q7,(fun _=>Z),qs.cons _⟩
 rintro S e s hS ⟨v1,b8,w7,p0,p2,p4,p6,p20,p22,p24,q6,q7,q8,qs⟩; rw [hS 6 (by decide) (by decide),hS 8 (by decide) (by decide)] at qs; refine AR.ag3 qs (AR.less (Less.add p0 (Less.add p2 (Less.add p4 (Less.add p6 (Less.add (q7 (hS 7 (by decide) (by decide))) (Less.add (q8 (hS 8 (by decide) (by decide))) Less.nil)))))) ?_); show AR _ _ _ _ _ _ _ _; refine AR.bF Z Z (AO.bR (i:=0) Z Z Z nQ Z Z Z Z Z (AR.nil [0,2,4,6,8] Z (AW.seq (AW.sr ?_)))); refine cs 2 Z (AR.step Z Z Z (AO.aO (l:=b1.blocks) Z Z Z Z jG Z (au.aB _) (cs 1 Z (AR.nil [0,2,6,8,28,29,30] Z ?_)))); refine AW.block (AW.row 4 38 (AW.settle [0,2,6,8,28,29,30] Z ?_)); refine AW.afo (fun x3 bn v2 v3 y1=>[(0,pP p1),(2,iP oZ),(6,pP b6),(8,pP b8),(28,.list (au.aM b1.blocks)),(29,iP (b1.blocks.length:Int)),(30,iP x3)]) (fun x3 bn v2 v3 y1=>[.row v3 (au.aM bn.blocks).length 4 38,.box b8 [.str bn.kind,.str bn.name,.own v2 (List.map aK.cells bn.attrs),.own v3 (au.aM bn.blocks)],.row v2 (List.map aK.cells bn.attrs).length 11 48,.box b6 [.str ([]:Str),.str ([]:Str),.own (.slice none 0 0) [],.own (.slice none 0 0) []],.box p1 (eU y1)]) (fun bX x3 bn v2 v3 y1=>gy bL bY b1 oZ bX x3 bn y1=some (r0,r1,x1s)) BIG 0 (au.mk b1.kind b1.name x2 []) v1 (.slice none 0 0) x1 Z Z hf (fun _ _ _ _ _ hz=>bT hz) ?_; intro bX x3 bn v2 v3 y1 hf; rw [gy] at hf; refine AW.sr (cs 1 Z (AR.nil [0,2,6,8,28,29,30,31] Z (AW.seq ?_))); refine AW.cond Z (fun h2=>?_) (fun h2=>?_)
 ·
  replace hf:=jF h2 hf; refine AW.skip (AW.seq (AW.block (AW.sr ?_))); refine B1 hf fun e1 h3 hf=>?_; refine AR.step Z Z Z (AO.aP h3 Z Z (au.aB _) Z jG (au.aD _) Z (cs 1 Z (AR.step Z Z Z (AO.aC Z nP (fun b10=>(AR.bF Z Z (AO.bR (i:=0) Z Z Z nQ Z Z Z Z Z ?_))))))); refine AR.nil [0,2,6,8,10,28,29,30] Z (AW.seq (AW.sr (cs 1 Z ?_))); refine AR.step Z Z Z (AO.aR (i:=0) Z Z Z Qw Z Z (cs 1 Z (AR.nil [0,2,6,8,10,28,29,30,36] Z (AW.cond Z (fun h4=>?_) (fun h4=>?_)))))
  ·
   replace hf:=jF h4 hf; refine AW.sr (cs 1 Z (AR.step Z Z Z (AO.aR (i:=0) Z Z Z nQ Z Z (cs 1 Z ?_)))); obtain ⟨x4,x5,y2,h5,hf⟩:=kg hf; refine AR.step Z Z Z (AO.call Z _ Z Z agR (AC.one 5 Z (oV _ _ _ _ h5 ⟨_,Z,(cs 3 Z (AR.step Z Z Z (AO.aC Z nP (fun b11=>(AR.bF Z Z (AO.bR (i:=0) Z Z Z nQ Z Z Z Z Z ?_))))))⟩))); refine cs 1 Z (AR.nil [0,2,6,8,11,12,28,29,30] Z (AW.seq (AW.sr ?_))); refine cs 2 Z (AR.nil [0,2,6,8,11,12,28,29,30,45] Z (AW.cond Z (fun h6=>?_) (fun h6=>?_)))
   ·
    replace hf:=jF h6 hf; refine AW.sr (AR.step Z Z Z (AO.build Z nP Lv Z (cs 1 Z (AR.bF Z Z (AO.bR (i:=5) Z Z Z nQ Z Z Z Z Z ?_))))); refine cs 1 Z (AR.nil [6,7] Z (AW.ret ?_)); cases hf; exact ⟨rfl,_,⟨_,_,rfl,⟨_,_,5,_,_,rfl,rfl,nQ,rfl⟩,_,_,rfl,rfl,rfl⟩,_,(.cons _ (.cons _ (.cons _ (.cons _ (.cons _ (.cons _ (.cons_cons _ (List.nil_sublist _)))))))),h⟩
   ·
    replace hf:=iw h6 hf; refine AW.skip (AW.sr (cs 1 Z (AR.step Z Z Z (AO.aR (i:=3) Z Z Z rZ Z Z ?_)))); refine AR.step rfl rfl rfl (AO.aR (i:=0) rfl rfl rfl nQ rfl rfl (AR.step rfl rfl rfl (AO.bq (au.aM [x4]) rfl tJ rfl rfl rfl (by first | rfl | simp only [List.map,au.aD,au.aM]) ?_)))
    refine B1 hf fun x6 h7 hf=>?_; refine AR.step Z Z Z (AO.eZ (i:=2) (l:=bn.blocks) (m:=[x4]) h7 Z Z Z Z Z Z Z tJ jG (au.aB _) (au.aB _) (au.aB _).symm (au.bG) (au.cells_one) (by decide) (fun v4 s1 hs1=>?_)); cases hs1; refine cs 1 Z (AR.bF Z Z (AO.bR (i:=3) Z Z Z rZ Z Z Z Z Z (AR.nil [0,2,6,8,28,29,30] Z (AW.exit ?_)))); refine AW.region (cs 2 Z (AR.drop1 (AR.drop1 ?_))); refine AR.nil [0,2,6,8,28,29,30] Z ?_; exact ⟨(cZ (x3 + 1)),(au.mk bn.kind bn.name bn.attrs x6),v2,v4,y2,Z,Z,Z,hf⟩
  ·
   replace hf:=iw h4 hf; refine AW.skip (AW.sr (cs 1 Z (AR.step Z Z Z (AO.aR (i:=0) Z Z Z nQ Z Z ?_)))); refine cs 1 Z ?_; obtain ⟨x7,x8,y3,h8,hf⟩:=kg hf; refine AR.step Z Z Z (AO.call Z _ Z Z agQ (AC.one 5 Z (tK _ _ _ _ h8 ⟨_,Z,(cs 3 Z (AR.step Z Z Z (AO.aC Z nP (fun b13=>(AR.bF Z Z (AO.bR (i:=0) Z Z Z nQ Z Z Z Z Z ?_))))))⟩))); refine cs 1 Z (AR.nil [0,2,6,8,13,14,28,29,30] Z (AW.seq (AW.sr ?_))); refine cs 2 Z (AR.nil [0,2,6,8,13,14,28,29,30,62] Z (AW.cond Z (fun h9=>?_) (fun h9=>?_)))
   ·
    replace hf:=jF h9 hf; refine AW.sr (AR.step Z Z Z (AO.build Z nP Lv Z (cs 1 Z (AR.bF Z Z (AO.bR (i:=5) Z Z Z nQ Z Z Z Z Z ?_))))); refine cs 1 Z (AR.nil [6,7] Z (AW.ret ?_)); cases hf; exact ⟨rfl,_,⟨_,_,rfl,⟨_,_,5,_,_,rfl,rfl,nQ,rfl⟩,_,_,rfl,rfl,rfl⟩,_,(.cons _ (.cons _ (.cons _ (.cons _ (.cons _ (.cons _ (.cons_cons _ (List.nil_sublist _)))))))),h⟩
   ·
    replace hf:=iw h9 hf; refine AW.skip (AW.seq (AW.sr (cs 1 Z ?_))); refine AR.step Z Z Z (AO.aR (i:=0) Z Z Z Wj Z Z (AR.step Z Z Z (AO.aO (l:=x7.attrs) Z Z Z Z o9 Z Z (cs 1 Z (AR.nil [0,2,6,8,13,28,29,30,66,67,68] Z ?_))))); refine AW.block (AW.settle [0,2,6,8,13,28,29,30,66,67,68] Z ?_); refine AW.afp (fun x9 kY v5 v6=>[(0,pP p1),(2,iP oZ),(6,pP b6),(8,pP b8),(13,pP b13),(28,.list (au.aM b1.blocks)),(29,iP (b1.blocks.length:Int)),(30,iP x3),(66,.list (List.map aK.cells x7.attrs)),(67,iP (x7.attrs.length:Int)),(68,iP x9)]) (fun x9 kY v5 v6=>[.box b13 (dY x7),.box b10 (dY e1),.row v6 (au.aM kY.blocks).length 4 38,.box b8 [.str kY.kind,.str kY.name,.own v5 (List.map aK.cells kY.attrs),.own v6 (au.aM kY.blocks)],.row v5 (List.map aK.cells kY.attrs).length 11 48,.box b6 [.str ([]:Str),.str ([]:Str),.own (.slice none 0 0) [],.own (.slice none 0 0) []],.box p1 (eU y3)]) (fun Jj x9 kY v5 v6=>mo x3 x7 y3 (gy bL bY b1 oZ bX) Jj x9 kY=some (r0,r1,x1s)) BIG 0 bn v2 v3 Z Z hf (fun _ _ _ _ hz=>bT hz) ?_; intro Jj x9 kY v5 v6 hf; rw [mo] at hf; refine AW.sr (cs 1 Z (AR.nil [0,2,6,8,13,28,29,30,66,67,68,69] Z (AW.seq ?_))); refine AW.cond Z (fun h10=>?_) (fun h10=>?_)
    ·
     replace hf:=jF h10 hf; refine AW.skip (AW.seq (AW.block (AW.sr ?_))); refine B1 hf fun e2 h11 hf=>?_; refine AR.step Z Z Z (AO.aP h11 Z Z Z Z o9 (aK.aD _) Z (cs 1 Z (AR.step Z Z Z (AO.aC Z OA (fun b16=>(AR.bF Z Z (AO.bR (i:=0) Z Z Z adO Z Z Z Z Z ?_))))))); refine AR.nil [0,2,6,8,13,16,28,29,30,66,67,68] Z (AW.seq (AW.sr (AR.step Z Z Z (AO.aR (i:=4) Z Z Z nQ Z Z ?_)))); refine cs 1 Z (AR.step Z Z Z (AO.aR (i:=0) Z Z Z Qw Z Z ?_)); obtain ⟨Il,Qv,h12,hf⟩:=bP hf; refine AR.step Z Z Z (AO.call Z _ Z Z agF (Fx _ _ h12 (cs 3 Z (AR.step Z Z Z (AO.aC Z iO (fun b17=>(AR.bF Z Z (AO.bR (i:=0) Z Z Z gM Z Z Z Z Z ?_)))))))); refine cs 1 Z (AR.nil [0,2,6,8,13,16,18,28,29,30,66,67,68] Z (AW.sr (cs 1 Z ?_))); refine AR.nil [0,2,6,8,13,16,28,29,30,66,67,68,79] Z (AW.cond Z (fun lZ=>?_) (fun lZ=>?_))
     ·
      replace hf:=jF lZ hf; refine AW.sr (AR.step Z Z Z (AO.build Z nP Lv Z (AR.bF Z Z (AO.bR (i:=7) Z Z Z nQ Z Z Z Z Z (cs 1 Z ?_))))); refine AR.nil [6,7] Z (AW.ret ?_); cases hf; exact ⟨rfl,_,⟨_,_,rfl,⟨_,_,7,_,_,rfl,rfl,nQ,rfl⟩,_,_,rfl,rfl,rfl⟩,_,(.cons _ (.cons _ (.cons _ (.cons _ (.cons _ (.cons _ (.cons _ (.cons _ (.cons_cons _ (List.nil_sublist _)))))))))),h⟩
     ·
      replace hf:=iw lZ hf; refine AW.skip (AW.region (cs 1 Z (AR.step Z Z Z (AO.aR (i:=5) Z Z Z Wj Z Z ?_)))); refine AR.step rfl rfl rfl (AO.aR (i:=1) rfl rfl rfl adO rfl rfl (AR.step rfl rfl rfl (AO.bq (List.map aK.cells [e2]) rfl xq rfl rfl rfl (by first | rfl | simp only [List.map,aK.aD]) ?_)))
      refine B1 hf fun Li nu hf=>?_; refine AR.step Z Z Z (AO.eZ (i:=6) (l:=kY.attrs) (m:=[e2]) nu Z Z Z Z Z Z Z xq o9 Z Z Z (aK.bG) (aK.cells_one) (by decide) (fun v7 s2 hs2=>?_)); cases hs2; refine cs 1 Z (AR.bF Z Z (AO.bR (i:=5) Z Z Z Wj Z Z Z Z Z (AR.nil [0,2,6,8,13,28,29,30,66,67,68] Z (AW.region ?_)))); refine cs 2 Z (AR.drop1 (AR.drop1 (AR.nil [0,2,6,8,13,28,29,30,66,67,68] Z ?_))); exact ⟨(cZ (x9 + 1)),(au.mk kY.kind kY.name Li kY.blocks),v7,v6,Z,Z,Z,hf⟩
    ·
     replace hf:=iw h10 hf; refine AW.exit (AW.region (cs 1 Z (AR.step Z Z Z (AO.aR (i:=3) Z Z Z rZ Z Z ?_)))); refine cs 1 Z (AR.step Z Z Z (AO.aR (i:=0) Z Z Z rZ Z Z ?_)); refine B1 hf fun SB tq hf=>?_; refine AR.step Z Z Z (AO.eZ (i:=2) (l:=kY.blocks) (m:=x7.blocks) tq Z Z Z Z Z Z Z tJ jG (au.aB _) (au.aB _) (au.aB _).symm (au.bG) (au.cells_one) (by decide) (fun v8 s3 hs3=>?_)); cases hs3; refine cs 1 Z (AR.bF Z Z (AO.bR (i:=3) Z Z Z rZ Z Z Z Z Z (AR.nil [0,2,6,8,28,29,30] Z (AW.region ?_)))); refine cs 2 Z (AR.drop1 (AR.drop1 (AR.nil [0,2,6,8,28,29,30] Z ?_))); exact ⟨(cZ (x3 + 1)),(au.mk kY.kind kY.name kY.attrs SB),v5,v8,y3,Z,Z,Z,hf⟩
 ·
  replace hf:=iw h2 hf; refine AW.exit (AW.sr (AR.step Z Z Z (AO.aR (i:=1) Z Z Z nQ Z Z (AR.bF Z Z (AO.bR (i:=3) Z Z Z nQ Z Z Z Z Z ?_))))); refine cs 1 Z (AR.nil [6,7] Z (AW.ret ?_)); cases hf; exact ⟨rfl,_,⟨_,_,rfl,⟨_,_,3,_,_,rfl,rfl,nQ,rfl⟩,_,_,rfl,rfl,rfl⟩,_,(.cons _ (.cons _ (.cons _ (.cons _ (.cons_cons _ (List.nil_sublist _)))))),h⟩
theorem Cx (bL) (oV:qw bL) (bY) (tK:pO bY) (p1:Nat) (x1:aH) (IG:au) (oZ:Int) {r0:au} {r1:Int} {x1s:aH} (hf:mh bL bY x1 IG oZ=some (r0,r1,x1s)) {Q:dx→List bf→Prop} (h:Q (.ret (.tuple [.agg (dY r0),iP r1])) [.box p1 (eU x1s)]):PC 55 [pP p1,.agg (dY IG),iP oZ] [.box p1 (eU x1)] Q:=by
 unfold mh at hf; refine BD 123 [.cell 6 38,.tmp 7] [0,1,2] Tryz.func55 Z Z Z Z Z (W 1 Z (AS Z (AO.aC Z nP (fun b6=>?_)))); refine B1 hf fun Al h1 hf=>Rr 19 [1,1,1,1] Z Z (CL Z (lM _ (fun z0=>j4 z0 IG) 88 [.ref (dY IG)] agE (fun _ _ hz=>BP _ _ hz) h1 (U 3 Z (AS Z (AO.aO (l:=IG.blocks) Z Z Z Z jG Z (au.aB _) (J 2 Z (C hf Z (fun h2 hf=>?_) fun h2 hf=>?_)))))))
 · cases hf; exact Wx 3 [0] rfl rfl ⟨rfl,_,⟨_,_,rfl,⟨_,_,0,_,_,rfl,rfl,nQ,rfl⟩,_,_,rfl,rfl,rfl⟩,_,(.cons _ (.cons_cons _ (List.nil_sublist _))),h⟩
 refine V 3 Z (C hf Z (fun h3 hf=>?_) fun h3 hf=>?_)
 · cases hf; exact Wx 3 [0] rfl rfl ⟨rfl,_,⟨_,_,rfl,⟨_,_,0,_,_,rfl,rfl,nQ,rfl⟩,_,_,rfl,rfl,rfl⟩,_,(.cons _ (.cons_cons _ (List.nil_sublist _))),h⟩
 refine V 3 Z (C hf Z (fun h4 hf=>?_) fun h4 hf=>?_)
 · cases hf; exact Wx 3 [0] rfl rfl ⟨rfl,_,⟨_,_,rfl,⟨_,_,0,_,_,rfl,rfl,nQ,rfl⟩,_,_,rfl,rfl,rfl⟩,_,(.cons _ (.cons_cons _ (List.nil_sublist _))),h⟩
 refine V 3 Z (C hf Z (fun h5 hf=>?_) fun h5 hf=>?_)
 · cases hf; exact Wx 3 [0] rfl rfl ⟨rfl,_,⟨_,_,rfl,⟨_,_,0,_,_,rfl,rfl,nQ,rfl⟩,_,_,rfl,rfl,rfl⟩,_,(.cons _ (.cons_cons _ (List.nil_sublist _))),h⟩
 refine W 3 Z (AS Z (AO.aO (l:=IG.attrs) Z Z Z Z o9 Z Z ?_)); refine J 1 Z (AW.row 7 54 (V5 (fun args1 v1 x2=>[(0,pP p1),(2,iP oZ),(6,pP b6),(9,iP Al),(10,.own v1 (List.map aA.cells args1)),(54,.list (List.map aK.cells IG.attrs)),(55,iP (IG.attrs.length:Int)),(56,iP x2)]) (fun args1 v1 x2=>[.row v1 (List.map aA.cells args1).length 7 54,.box b6 [.str ([]:Str),.str ([]:Str),.own (.slice none 0 0) [],.own (.slice none 0 0) []],.box p1 [.list (List.map bI.cells x1.templates),.list (List.map aA.cells x1.env),iP (cZ (x1.uses + 1))]]) (fun bX args1 v1 x2=>iV bL x1 IG oZ Al bX args1 x2=some (r0,r1,x1s)) BIG [] (.slice none 0 0) 0 Z Z hf (fun _ _ _ hz=>bT hz) ?_)); intro bX args1 v1 x2 hf; rw [iV] at hf; refine V 1 Z (C hf Z (fun h6 hf=>?_) fun h6 hf=>?_)
 ·
  refine B1 hf fun e1 h7 hf=>W 0 Z (AS Z (AO.aP h7 Z Z Z Z o9 (aK.aD _) Z (U 1 Z (AS Z (AO.aC Z OA (fun b12=>(Rw 1 [0] Z Z (AW.Xi 0 10 12 [_,_,_,_] [] mixed (by kernel_rfl) (by kernel_rfl) (by kernel_rfl) Z Z Z (List.Perm.refl _) ?_)))))))); refine Ev.nil ?_; show Ev _ _ _ _ _ _ _; refine Ev.cs bC 1 Z (Ev.cons Z Z Z (AO.aR (i:=0) Z Z Z gM Z Z zg) (Ev.cs bC 3 Z (Ev.cons Z Z Z (AO.aR (i:=3) Z Z Z agu Z Z zg) ?_))); obtain ⟨x3,e2,h8,hf⟩:=bP hf; refine Ev.cons Z Z Z (AO.call Z _ Z Z agD (JO _ _ h8 zg)) (Ev.cs bC 3 Z (Ev.nil (TF.step Z Z Z (AO.aC Z gY (fun b13=>?_))))); refine TF.bF Z Z (AO.bR (i:=0) Z Z Z mK Z Z Z Z Z (TF.nil ?_)); show AR _ _ _ _ _ _ _ _; refine J 3 Z (C hf Z (fun h9 hf=>?_) fun h9 hf=>?_)
  · cases hf; exact Wx 4 [2] rfl rfl ⟨rfl,_,⟨_,_,rfl,⟨_,_,2,_,_,rfl,rfl,nQ,rfl⟩,_,_,rfl,rfl,rfl⟩,_,(.cons _ (.cons _ (.cons _ (.cons_cons _ (List.nil_sublist _))))),h⟩
  refine Wr 5 [0,4] rfl rfl (AS rfl (AO.bq (List.map aA.cells [(aA.mk e1.name x3)]) rfl DC rfl rfl rfl (by first | rfl | simp only [List.map,aA.aD]) ?_)); refine B1 hf fun args2 h10 hf=>AS Z (AO.eZ (i:=1) (l:=args1) (m:=[(aA.mk e1.name x3)]) h10 Z Z Z Z Z Z Z DC wC Z Z Z (aA.bG) (aA.cells_one) (by decide) (fun v2 s1 hs1=>?_)); cases hs1; refine fI 3 Z (AR.GR 4 Z (AR.GR 0 Z ?_)); exact N 0 Z ⟨args2,v2,(cZ (x2 + 1)),Z,Z,Z,hf⟩
 refine B1 hf fun e3 h11 hf=>Wr 5 [2] Z Z (AS Z (AO.aP h11 Z Z Z Z Xg (bI.aD _) Z ?_)); obtain ⟨dL,e4,h12,hf⟩:=bP hf; refine U 3 Z (CL Z (HV _ _ h12 (J 7 Z (C hf Z (fun lZ hf=>?_) fun lZ hf=>?_))))
 · cases hf; exact Wx 4 [1] rfl rfl ⟨rfl,_,⟨_,_,rfl,⟨_,_,1,_,_,rfl,rfl,nQ,rfl⟩,_,_,rfl,rfl,rfl⟩,_,(.cons _ (.cons _ (.cons_cons _ (List.nil_sublist _)))),h⟩
 refine B1 hf fun e5 nu hf=>Wr 5 [2] Z Z (AS Z (AO.aP nu Z Z Z Z Xg (bI.aD _) Z ?_)); obtain ⟨x4,e6,tq,hf⟩:=bP hf; refine U 3 Z (CL Z (GY _ _ tq (U 3 Z (AS Z (AO.aC Z nP (fun b17=>(Rw 4 [0] Z Z (C hf Z (fun h16 hf=>?_) fun h16 hf=>?_))))))))
 · cases hf; exact Wx 4 [2] rfl rfl ⟨rfl,_,⟨_,_,rfl,⟨_,_,2,_,_,rfl,rfl,nQ,rfl⟩,_,_,rfl,rfl,rfl⟩,_,(.cons _ (.cons _ (.cons _ (.cons_cons _ (List.nil_sublist _))))),h⟩
 replace hf:=(FZ _).trans hf; obtain ⟨x5,x6,y1,Ao,hf⟩:=kg hf; refine Wr 4 [0] Z Z (CL Z (AC.one 3 Z (oV _ _ _ _ Ao ⟨_,Z,?_⟩))); cases hf; exact Rx 4 [2] rfl rfl ⟨rfl,_,⟨_,_,rfl,⟨_,_,2,_,_,rfl,rfl,nQ,rfl⟩,_,_,rfl,rfl,rfl⟩,_,(.cons _ (.cons _ (.cons _ (.cons_cons _ (List.nil_sublist _))))),h⟩
theorem vT :∀ k:Nat,(qw (dV k))∧(pO (fJ k)):=by
 intro k
 induction k with
 | zero=>exact ⟨fun _ _ _ _ _ _ _ hz=>by first | cases hz | (unfold dV at hz; cases hz),fun _ _ _ _ _ _ _ hz=>by first | cases hz | (unfold fJ at hz; cases hz)⟩
 | succ k ih=>exact ⟨fun mE Pk oz lN aZ rW Nw hz  Q hq=>Du (dV k) ih.1 (fJ k) ih.2 mE Pk oz lN hz hq,fun mE Pk Hg lN aZ rW Nw hz  Q hq=>Cx (dV k) ih.1 (fJ k) ih.2 mE Pk Hg lN hz hq⟩
theorem D_ (mE:Nat) (Pk:aH) (oz:au) (lN:Int) {aZ:au} {rW:Int} {Nw:aH} (hf:nU Pk oz lN=some (aZ,rW,Nw)) {Q:dx→List bf→Prop} (h:Q (.ret (.tuple [.agg (dY aZ),iP rW])) [.box mE (eU Nw)]):PC 54 [pP mE,.agg (dY oz),iP lN] [.box mE (eU Pk)] Q:=
 ((vT BIG).1) mE Pk oz lN hf h
theorem Da (mE:Nat) (Pk:aH) (Hg:au) (lN:Int) {aZ:au} {rW:Int} {Nw:aH} (hf:xk Pk Hg lN=some (aZ,rW,Nw)) {Q:dx→List bf→Prop} (h:Q (.ret (.tuple [.agg (dY aZ),iP rW])) [.box mE (eU Nw)]):PC 55 [pP mE,.agg (dY Hg),iP lN] [.box mE (eU Pk)] Q:=
 ((vT BIG).2) mE Pk Hg lN hf h
end
section
variable [Am]
theorem Ng (f1:cO) (Ej:List bI) (ou:List aA) {r0:cO} {r1:Int} (hf:uD f1 Ej ou=some (r0,r1)) (h:Q (.ret (.tuple [.agg [.list (au.aM r0.blocks)],iP r1])) τ):PC 29 [.agg [.list (au.aM f1.blocks)],.list (List.map bI.cells Ej),.list (List.map aA.cells ou)] τ Q:=by
 unfold uD at hf; refine BN 92 [.cell 6 34,.tmp 7] [0,1,2] Tryz.func29 Z Z Z Z Z (W 1 Z (AS Z (AO.aC Z Dt (fun b6=>?_)))); refine B1 hf fun e1 h1 hf=>U 2 Z (CL Z (Ee _ h1 (J 3 Z (C hf Z (fun h2 hf=>?_) fun h2 hf=>?_))))
 · cases hf; exact Wx 4 [0] Z Z (ZC [0] Z Z h)
 refine B1 hf fun e2 h3 hf=>W 1 Z (CL Z (G7 _ h3 (J 3 Z (C hf Z (fun h4 hf=>?_) fun h4 hf=>?_))))
 · cases hf; exact Wx 4 [0] Z Z (ZC [0] Z Z h)
 refine W 3 Z (AS Z (AO.Kr Z Z (fun b34=>(U 1 Z (AS Z (AO.aC Z Dt (fun b11=>(U 2 Z (AS Z (AO.aO (l:=f1.blocks) Z Z Z Z jG Z (au.aB _) ?_)))))))))); refine J 1 Z (AW.row 4 38 (LK4 (fun x1 bn v1 y1=>[(6,pP b6),(10,pP b34),(11,pP b11),(36,.list (au.aM f1.blocks)),(37,iP (f1.blocks.length:Int)),(38,iP x1)]) (fun x1 bn v1 y1=>[.row v1 (au.aM bn.blocks).length 4 38,.box b11 [.own v1 (au.aM bn.blocks)],.box b34 (eU y1),.box b6 [.own (.slice none 0 0) []]]) (fun bX x1 bn v1 y1=>lY f1 bX x1 bn y1=some (r0,r1)) BIG 0 (cO.mk []) (.slice none 0 0) (aH.mk Ej ou 0) Z Z hf (fun _ _ _ _ hz=>bT hz) ?_)); intro bX x1 bn v1 y1 hf; rw [lY] at hf; refine V 1 Z (C hf Z (fun h5 hf=>?_) fun h5 hf=>?_)
 ·
  refine B1 hf fun e3 h6 hf=>W 0 Z (AS Z (AO.aP h6 Z Z (au.aB _) Z jG (au.aD _) Z (U 1 Z (AS Z (AO.aC Z nP (fun b13=>(Rw 4 [0,0] Z Z (C hf Z (fun h7 hf=>?_) fun h7 hf=>?_))))))))
  ·
   obtain ⟨x2,x3,y2,h8,hf⟩:=kg hf; refine Wr 2 [0] Z Z (CL Z (AC.one 3 Z (D_ _ _ _ _ h8 ⟨_,Z,(U 3 Z (AS Z (AO.aC Z nP (fun b14=>(Rw 4 [0] Z Z (C hf Z (fun h9 hf=>?_) fun h9 hf=>?_))))))⟩)))
   · cases hf; exact Wx 4 [5] Z Z (ZC [5] Z Z h)
   refine Wr 3 [3,0] rfl rfl (AS rfl (AO.bq (au.aM [x2]) rfl tJ rfl rfl rfl (by first | rfl | simp only [List.map,au.aD,au.aM]) ?_)); refine B1 hf fun x4 h10 hf=>AS Z (AO.eZ (i:=2) (l:=bn.blocks) (m:=[x2]) h10 Z Z Z Z Z Z Z tJ jG (au.aB _) (au.aB _) (au.aB _).symm (au.bG) (au.cells_one) (by decide) (fun v2 s1 hs1=>?_)); cases hs1; refine Rn 4 [3] Z Z (AR.drop1 (AR.drop1 ?_)); exact N 0 Z ⟨(cZ (x1 + 1)),(cO.mk x4),v2,y2,Z,Z,Z,hf⟩
  obtain ⟨x5,x6,y3,h11,hf⟩:=kg hf; refine Wr 2 [0] Z Z (CL Z (AC.one 3 Z (Da _ _ _ _ h11 ⟨_,Z,(U 3 Z (AS Z (AO.aC Z nP (fun b16=>(Rw 5 [0] Z Z (C hf Z (fun h12 hf=>?_) fun h12 hf=>?_))))))⟩)))
  · cases hf; exact Wx 4 [5] Z Z (ZC [5] Z Z h)
  refine Wr 2 [0] Z Z (AS Z (AO.aO (l:=x5.attrs) Z Z Z Z o9 Z Z (J 2 Z (C hf Z (fun lZ hf=>?_) fun lZ hf=>?_))))
  · cases hf; exact Wx 3 [5] Z Z (ZC [5] Z Z h)
  refine B1 hf fun x7 nu hf=>Wr 4 [3,0] Z Z (AS Z (AO.eZ (i:=2) (l:=bn.blocks) (m:=x5.blocks) nu Z Z Z Z Z Z Z tJ jG (au.aB _) (au.aB _) (au.aB _).symm (au.bG) (au.cells_one) (by decide) (fun v3 s2 hs2=>?_))); cases hs2; refine Rn 4 [3] Z Z (AR.drop1 (AR.drop1 ?_)); exact N 0 Z ⟨(cZ (x1 + 1)),(cO.mk x7),v3,y3,Z,Z,Z,hf⟩
 refine B1 hf fun e4 tq hf=>Wr 1 [1] Z Z (CL Z (Ee _ tq (J 3 Z (C hf Z (fun h16 hf=>?_) fun h16 hf=>?_))))
 · cases hf; exact Wx 4 [3] Z Z (ZC [3] Z Z h)
 cases hf; exact Wx 3 [1,3] Z Z (ZC [3] Z Z h)
end
section
variable [Am]
theorem w9 (f1:cO) (ou:List aA) {r0:cO} {r1:Int} (hf:oU f1 ou=some (r0,r1)) (h:Q (.ret (.tuple [.agg [.list (au.aM r0.blocks)],iP r1])) τ):PC 12 [.agg [.list (au.aM f1.blocks)],.list (List.map aA.cells ou)] τ Q:=by
 unfold oU at hf; refine BN 25 [.cell 4 34,.tmp 5] [0,1] Tryz.func12 Z Z Z Z Z (W 1 Z (AS Z (AO.aC Z Dt (fun b4=>?_)))); obtain ⟨Ej,x1,e1,h1,hf⟩:=kg hf; refine U 2 Z (CL Z (L_ _ h1 (U 4 Z (AS Z (AO.aC Z Dt (fun b7=>(Rw 5 [0] Z Z (C hf Z (fun h2 hf=>?_) fun h2 hf=>?_))))))))
 · cases hf; exact Wx 4 [1] Z Z (ZC [1] Z Z h)
 replace hf:=(Kt _).trans hf; obtain ⟨x2,x3,h3,hf⟩:=bP hf; refine Wr 3 [0] Z Z (CL Z (Ng _ _ _ h3 ?_)); cases hf; exact Rx 4 [1] Z Z (ZC [1] Z Z h)
end
section
variable [Am]
theorem JK {r0:Bool} (hf:AA=some r0) (h:Q (.ret (.bool r0)) τ):PC 6 [] τ Q:=by
 unfold AA at hf; refine BN 118 [.tmp 0] [] Tryz.func6 Z Z Z Z Z ?_; refine B1 hf fun x1 h1 hf=>W 2 rfl (CL rfl (rM _ h1 (AS rfl (AO.aC rfl iO (fun b1=>(Rr 3 [0,0] rfl rfl (AS rfl (AO.bq (List.map aK.cells [(aK.mk ([110]:Str) x1)]) rfl xq rfl rfl rfl (by first | rfl | simp only [List.map,aK.aD]) ?_)))))))); refine B1 hf fun x2 h2 hf=>CL Z (G5 _ h2 ?_); obtain ⟨x3,e1,h3,hf⟩:=bP hf; refine CL Z (w9 _ _ h3 (U 3 Z (AS Z (AO.aC Z Dt (fun b2=>?_)))))
 refine B1 hf fun x4 h4 hf=>Rr 2 [0] Z Z (CL Z (G5 _ h4 ?_)); obtain ⟨x5,g1,h5,hf⟩:=bP hf; refine CL Z (w9 _ _ h5 (U 3 Z (AS Z (AO.aC Z Dt (fun b4=>?_))))); refine B1 hf fun x6 h6 hf=>Rr 2 [0] rfl rfl (CL rfl (Mh _ h6 (U 1 rfl (AS rfl (AO.bq (List.map aK.cells [(aK.mk ([110]:Str) x6)]) rfl xq rfl rfl rfl (by first | rfl | simp only [List.map,aK.aD]) ?_))))); refine B1 hf fun x7 h7 hf=>CL Z (G5 _ h7 ?_); obtain ⟨x8,hx1,h8,hf⟩:=bP hf
 refine CL rfl (w9 _ _ h8 (U 3 rfl (AS rfl (AO.aC rfl Dt (fun b6=>(Rr 4 [0,3] rfl rfl (AS rfl (AO.bq (List.map aK.cells [(aK.mk ([109]:Str) x1)]) rfl xq rfl rfl rfl (by first | rfl | simp only [List.map,aK.aD]) ?_)))))))); refine B1 hf fun x9 h9 hf=>CL Z (G5 _ h9 ?_); obtain ⟨Il,Al,h10,hf⟩:=bP hf
 refine CL Z (w9 _ _ h10 (U 3 Z (AS Z (AO.aC Z Dt (fun b8=>(Rr 5 [0] Z Z (AR.or 5 46 51 [2,5,7,9] (x:=((x3.blocks.length:Int) != 1)) Z Z (fun h11=>?_) (fun h11=>?_) ?_)))))))
 · refine Is 46 h11 Z (U 1 Z (GO Z (AO.aR (i:=3) Z Z Z rZ Z Z (GO Z (AO.aO (l:=x3.blocks) Z Z Z Z jG Z (au.aB _) ?_))))); exact fI 2 Z (En [51,2,5,7,9] Z)
 · refine Is 46 h11 Z ?_; exact fI 5 Z (En [51,2,5,7,9] Z)
 refine B1 hf fun b1 lZ hf=>U 1 Z (AR.fK 8 52 60 false [2,5,7,9] b1 Z Z (fun h12=>?_) (fun h12=>?_) ?_)
 · replace lZ:=iw h12 lZ; refine Is 52 h12 Z (U 1 Z (GO Z (AO.aR (i:=3) Z Z Z rZ Z Z ?_))); refine B1 lZ fun e2 nu lZ=>GO Z (AO.aP nu Z Z (au.aB _) Z jG (au.aD _) Z (U 2 Z (GO Z (AO.aO (l:=e2.attrs) Z Z Z Z o9 Z Z ?_)))); cases lZ; exact fI 2 Z (En [60,2,5,7,9] Z)
 · refine IT 52 h12 lZ Z fun lZ=>?_; cases lZ; exact fI 8 Z (En [60,2,5,7,9] Z)
 refine B1 hf fun b2 h16 hf=>U 1 Z (AR.fK 8 61 69 false [2,5,7,9] b2 Z Z (fun tq=>?_) (fun tq=>?_) ?_)
 · replace h16:=iw tq h16; refine Is 61 tq Z (U 1 Z (GO Z (AO.aR (i:=3) Z Z Z rZ Z Z ?_))); refine B1 h16 fun e3 Ao h16=>GO Z (AO.aP Ao Z Z (au.aB _) Z jG (au.aD _) Z (U 2 Z (GO Z (AO.aO (l:=e3.blocks) Z Z Z Z jG Z (au.aB _) ?_)))); cases h16; exact fI 2 Z (En [69,2,5,7,9] Z)
 · refine IT 61 tq h16 Z fun h16=>?_; cases h16; exact fI 8 Z (En [69,2,5,7,9] Z)
 refine U 1 Z (On 3 70 73 [2,7,9] (g1 != 8) Z Z Z Z (U 1 Z (On 3 74 77 [2,9] (hx1 != 9) Z Z Z Z (U 1 Z (On 3 78 81 [2] (Al != 10) Z Z Z Z (J 0 Z (C hf Z (fun h21 hf=>?_) fun h21 hf=>?_)))))))
 · cases hf; exact M 1 Z (Y Z h)
 refine W 3 rfl (AS rfl (AO.bq (List.map bN.cells [(bN.mk ([110]:Str) (aJ.mk 3 []) true (ah.mk 2 false 7 ([]:Str) [] []))]) rfl abb rfl rfl rfl (by first | rfl | simp only [List.map,bN.aD]) ?_)); obtain ⟨l1,m1,h22,hf⟩:=bP hf; refine U 2 Z (CL Z (HV _ _ h22 ?_)); refine B1 hf fun e4 h23 hf=>Rr 7 [3] Z Z (AS Z (AO.aP h23 Z Z (au.aB _) Z jG (au.aD _) Z ?_)); refine B1 hf fun e5 Ti hf=>U 2 Z (AS Z (AO.aP Ti Z Z Z Z o9 (aK.aD _) Z ?_))
 refine B1 hf fun Li Ux hf=>U 2 Z (CL Z (K6 _ Ux (U 2 Z (An 3 101 104 [11] (m1 == 0) Z Z Z Z (U 1 Z (AR.and 4 105 109 [11] (x:=((l1.length:Int) == 1)) Z Z (fun h27=>?_) (fun h27=>?_) ?_))))))
 · refine Is 105 h27 Z (U 1 Z (GO Z (AO.aO (l:=l1) Z Z Z Z wC Z Z ?_))); exact fI 2 Z (En [109,11] Z)
 · refine Is 105 h27 Z ?_; exact fI 4 Z (En [109,11] Z)
 refine BR hf fun b3 KX hf=>?_; refine U 1 Z (AR.fK 7 110 117 true [] b3 Z Z (fun Uv=>?_) (fun Uv=>?_) ?_)
 · refine IT 110 Uv KX Z fun KX=>?_; refine B1 KX fun e6 NZ KX=>U 1 Z (GO Z (AO.aP NZ Z Z Z Z wC (aA.aD _) Z ?_)); cases KX; exact fI 5 Z (En [117] Z)
 · refine IF 110 Uv KX Z fun KX=>?_; cases KX; exact fI 7 Z (En [117] Z)
 cases hf; exact N 1 Z (Y Z h)
end
theorem A9 (mD:List Str) (oP:List Str) {r0:Bool} (hf:jU mD oP=some r0) (h:Q (.ret (.bool r0)) τ):PC 31 [sP mD,sP oP] τ Q:=by
 unfold jU at hf; refine BN 26 [.tmp 4] [0,1] Tryz.func31 Z Z Z Z Z (W 2 Z (AS Z (AO.aO (l:=mD) Z Z Z Z jm Z Z (U 1 Z (AS Z (AO.aO (l:=oP) Z Z Z Z jm Z Z (J 1 Z (C hf Z (fun h1 hf=>?_) fun h1 hf=>?_))))))))
 · cases hf; exact M 1 Z (Y Z h)
 refine W 1 Z (AS Z (AO.aO (l:=mD) Z Z Z Z jm Z Z (J 1 Z (JY (fun i1=>[(0,sP mD),(1,sP oP),(12,iP (mD.length:Int)),(13,iP i1)]) (fun i1=>[]) (fun bX i1=>ku mD oP bX i1=some r0) BIG 0 Z Z hf (fun _ hz=>bT hz) ?_)))); intro bX i1 hf; rw [ku] at hf; refine V 1 Z (C hf Z (fun h2 hf=>?_) fun h2 hf=>?_)
 ·
  refine V 2 Z (AW.draw 9 mixed (by kernel_rfl) Z ?_); refine Ev.cs bC 2 Z ?_; refine B1 hf fun e1 h3 hf=>Ev.cons Z Z Z (AO.aP h3 Z Z Z Z jm Z Z zg) (Ev.cs bC 3 Z ?_); refine B1 hf fun e2 h4 hf=>Ev.cons Z Z Z (AO.aP h4 Z Z Z Z jm Z Z zg) (Ev.cs bC 2 Z (Ev.nil ?_)); show AR _ _ _ _ _ _ _ _; refine J 0 Z (C hf Z (fun h5 hf=>?_) fun h5 hf=>?_)
  · cases hf; exact M 1 Z (Y Z h)
  exact M 2 Z ⟨(cZ (i1 + 1)),Z,Z,Z,hf⟩
 cases hf; exact M 1 Z (Y Z h)
theorem nN (mD:List aj) (oP:List aj) (eq1:aj→aj→Option Bool) (adt:FuncId) (afE:List PV) (aiF:aU Tryz.prog adt=true) (aiG:∀ a0 a1 b0,eq1 a0 a1=some b0→∀ {τ:List bf} {Q:dx→List bf→Prop},Q (.ret (.bool b0)) τ→PC adt ([.agg (bE a0),.agg (bE a1)] ++ afE) τ Q) {r0:Bool} (hf:fu mD oP eq1=some r0) (h:Q (.ret (.bool r0)) τ):PC 33 [.list (aj.aM mD),.list (aj.aM oP),.fn adt afE] τ Q:=by
 unfold fu at hf; refine BN 32 [.tmp 6] [0,1,2] Tryz.func33 Z Z Z Z Z (W 2 Z (AS Z (AO.aO (l:=mD) Z Z Z Z iQ Z (aj.aB _) (U 1 Z (AS Z (AO.aO (l:=oP) Z Z Z Z iQ Z (aj.aB _) (J 1 Z (C hf Z (fun h1 hf=>?_) fun h1 hf=>?_))))))))
 · cases hf; exact M 1 Z (Y Z h)
 refine W 1 Z (AS Z (AO.aO (l:=mD) Z Z Z Z iQ Z (aj.aB _) (J 1 Z (JY (fun i1=>[(1,.list (aj.aM oP)),(2,.fn adt afE),(15,.list (aj.aM mD)),(16,iP (mD.length:Int)),(17,iP i1)]) (fun i1=>[]) (fun bX i1=>dM mD oP eq1 bX i1=some r0) BIG 0 Z Z hf (fun _ hz=>bT hz) ?_)))); intro bX i1 hf; rw [dM] at hf; refine V 1 Z (C hf Z (fun h2 hf=>?_) fun h2 hf=>?_)
 ·
  refine B1 hf fun e1 h3 hf=>W 1 Z (AS Z (AO.aP h3 Z Z (aj.aB _) Z iQ (aj.aD _) Z (U 1 Z (AS Z (AO.aC Z iO (fun b8=>?_)))))); refine B1 hf fun e2 h4 hf=>Rr 4 [0] Z Z (AS Z (AO.aP h4 Z Z (aj.aB _) Z iQ (aj.aD _) Z (U 1 Z (AS Z (AO.aC Z iO (fun b9=>?_)))))); refine B1 hf fun x1 h5 hf=>Rr 4 [0,1,0] Z Z (AS Z (AO.call Z _ Z Z aiF (aiG _ _ _ h5 (J 1 Z (C hf Z (fun h6 hf=>?_) fun h6 hf=>?_)))))
  · cases hf; exact M 1 Z (Y Z h)
  refine Wn0 2 Z (AR.drop1 (AR.drop1 ?_)); exact N 0 Z ⟨(cZ (i1 + 1)),Z,Z,Z,hf⟩
 cases hf; exact M 1 Z (Y Z h)
abbrev J3 (oW:aj→aj→Option Bool):Prop:=∀ (uy:aj) (oz:aj) {aZ:Bool},oW uy oz=some aZ→∀ {τ:List bf} {Q:dx→List bf→Prop} (h:Q (.ret (.bool aZ)) τ),PC 16 [.agg (bE uy),.agg (bE oz)] τ Q
theorem Qn (oW) (N9:J3 oW) (a1:aj) (b1:aj) {r0:Bool} (hf:vS oW a1 b1=some r0) (h:Q (.ret (.bool r0)) τ):PC 16 [.agg (bE a1),.agg (bE b1)] τ Q:=by
 unfold vS at hf; refine BN 38 [.tmp 4] [0,1] Tryz.func16 Z Z Z Z Z (W 9 Z (An 6 10 16 [2,3] (a1.name == b1.name) Z Z Z Z ?_)); refine B1 hf fun b2 h3 hf=>U 1 Z (AR.fK 6 17 23 true [2,3] b2 Z Z (fun h2=>?_) (fun h2=>?_) ?_)
 · refine IT 17 h2 h3 Z fun h3=>?_; refine BR h3 fun x1 h4 h3=>?_; refine U 4 Z (GO Z (AO.call Z _ Z Z agZ (A9 _ _ h4 ?_))); cases h3; exact fI 1 Z (En [23,2,3] Z)
 · refine IF 17 h2 h3 Z fun h3=>?_; cases h3; exact fI 6 Z (En [23,2,3] Z)
 refine B1 hf fun b3 h6 hf=>U 1 Z (AR.fK 6 24 30 true [2,3] b3 Z Z (fun h5=>?_) (fun h5=>?_) ?_)
 · refine IT 24 h5 h6 Z fun h6=>?_; refine BR h6 fun x2 h7 h6=>?_; refine U 4 Z (GO Z (AO.call Z _ Z Z agY (Bo _ _ h7 ?_))); cases h6; exact fI 1 Z (En [30,2,3] Z)
 · refine IF 24 h5 h6 Z fun h6=>?_; cases h6; exact fI 6 Z (En [30,2,3] Z)
 refine BR hf fun b4 h9 hf=>?_; refine U 1 Z (AR.fK 6 31 37 true [] b4 Z Z (fun h8=>?_) (fun h8=>?_) ?_)
 · refine IT 31 h8 h9 Z fun h9=>?_; refine BR h9 fun x3 h10 h9=>?_; refine U 4 Z (GO Z (AO.call Z _ Z Z agX (nN _ _ oW 16 [] WG (fun _ _ _ hz=>N9 _ _  hz) h10 ?_))); cases h9; exact fI 1 Z (En [37] Z)
 · refine IF 31 h8 h9 Z fun h9=>?_; cases h9; exact fI 6 Z (En [37] Z)
 cases hf; exact N 1 Z (Y Z h)
theorem Q8 :∀ k:Nat,(J3 (om k)):=by
 intro k
 induction k with
 | zero=>exact fun _ _ _ hz=>by first | cases hz | (unfold om at hz; cases hz)
 | succ k ih=>exact fun uy oz aZ hz τ Q hq=>Qn (om k) ih uy oz hz hq
theorem Af (uy:aj) (oz:aj) {aZ:Bool} (hf:mU uy oz=some aZ) (h:Q (.ret (.bool aZ)) τ):PC 16 [.agg (bE uy),.agg (bE oz)] τ Q:=
 ((Q8 BIG)) uy oz hf h
section
variable [Am]
theorem JL (v1:ah) (GU:Bool) {r0:Bool} (hf:tZ v1 GU=some r0) (h:Q (.ret (.bool r0)) τ):PC 5 [.agg (aN v1),.bool GU] τ Q:=by
 unfold tZ at hf; refine BN 129 [.tmp 4] [0,1] Tryz.func5 Z Z Z Z Z ?_; refine B1 hf fun x1 h1 hf=>W 3 Z (CL Z (Xv _ h1 (J 1 Z (C hf Z (fun h2 hf=>?_) fun h2 hf=>?_))))
 · refine BR hf fun x2 h3 hf=>?_; refine W 0 Z (CL Z (JK  h3 ?_)); cases hf; exact N 1 Z (Y Z h)
 refine B1 hf fun x3 h4 hf=>W 0 rfl (CL rfl (Mh _ h4 (U 1 rfl (AS rfl (AO.bq (List.map aK.cells [(aK.mk ([116,121,112,101]:Str) x3)]) rfl xq rfl rfl rfl (by first | rfl | simp only [List.map,aK.aD]) ?_))))); refine U 1 Z (AS Z (AO.aC Z nP (fun b5=>?_))); refine B1 hf fun x4 h5 hf=>Rr 1 [0] Z Z (CL Z (wJ _ h5 ?_)); refine B1 hf fun x5 h6 hf=>CL rfl (wJ _ h6 (AS rfl (AO.bq (aj.aM [x4,x5]) rfl u_ rfl rfl rfl (by first | rfl | simp only [List.map,aj.aD,aj.aM]) ?_)))
 refine U 2 rfl (AS rfl (AO.bq (List.map aK.cells [(aK.mk ([121]:Str) (aj.mk 9 ([]:Str) (ah.mk 0 false 0 ([]:Str) [] []) [x4,x5] []))]) rfl xq rfl rfl rfl (by first | rfl | simp only [List.map,aK.aD]) ?_)); refine U 1 Z (AS Z (AO.aC Z nP (fun b6=>(Rw 1 [0] Z Z (AW.ab9 7 38 [7] mixed (by kernel_rfl) Z nP Z (by kernel_rfl) (by decide) ?_))))); refine B1 hf fun x6 h7 hf=>?_
 refine Ev.cons rfl rfl rfl (AO.call rfl _ rfl rfl ad2 (wJ _ h7 ⟨rfl,rfl⟩)) (Ev.cons rfl rfl rfl (AO.build rfl OA aa8 rfl ⟨rfl,rfl⟩) (Ev.cons rfl rfl rfl (AO.bq (List.map aK.cells [(aK.mk ([120]:Str) x6)]) rfl xq rfl rfl rfl (by first | rfl | simp only [List.map,aK.aD]) ⟨rfl,rfl⟩) ?_))
 refine Ev.cons rfl rfl rfl (AO.aR (i:=1) rfl rfl rfl nQ rfl rfl ⟨rfl,rfl⟩) (Ev.cons rfl rfl rfl (AO.aR (i:=0) rfl rfl rfl nQ rfl rfl ⟨rfl,rfl⟩) (Ev.cons rfl rfl rfl (AO.bq (au.aM [(au.mk ([112,97,114,97,109]:Str) ([110]:Str) [(aK.mk ([116,121,112,101]:Str) x3)] []),(au.mk ([115,116,101,112]:Str) ([]:Str) [(aK.mk ([121]:Str) (aj.mk 9 ([]:Str) (ah.mk 0 false 0 ([]:Str) [] []) [x4,x5] []))] [])]) rfl tJ rfl rfl rfl (by first | rfl | simp only [List.map,au.aD,au.aM]) ⟨rfl,rfl⟩) ?_))
 refine Ev.cons Z Z Z (AO.build Z nP Lv Z zg) (Ev.nil ?_); intro b7; show AR _ _ _ _ _ _ _ _; refine Rw 3 [0] Z Z (C hf Z (fun h8 hf=>?_) fun h8 hf=>?_)
 ·
  refine B1 hf fun x7 h9 hf=>W 2 rfl (CL rfl (wJ _ h9 (U 1 rfl (AS rfl (AO.bq (List.map aK.cells [(aK.mk ([110]:Str) x7)]) rfl xq rfl rfl rfl (by first | rfl | simp only [List.map,aK.aD]) ?_))))); refine U 1 rfl (AS rfl (AO.aC rfl nP (fun b9=>(Rr 2 [0,0] rfl rfl (AS rfl (AO.bq (au.aM [(au.mk ([117,115,101]:Str) ([116]:Str) [(aK.mk ([110]:Str) x7)] [])]) rfl tJ rfl rfl rfl (by first | rfl | simp only [List.map,au.aD,au.aM]) ?_))))))
  refine Rr 2 [1] rfl rfl (AS rfl (AO.bq (au.aM [(au.mk ([106,111,98]:Str) ([]:Str) [] [(au.mk ([117,115,101]:Str) ([116]:Str) [(aK.mk ([110]:Str) x7)] [])]),(au.mk ([116,101,109,112,108,97,116,101]:Str) ([116]:Str) [(aK.mk ([120]:Str) x6)] [(au.mk ([112,97,114,97,109]:Str) ([110]:Str) [(aK.mk ([116,121,112,101]:Str) x3)] []),(au.mk ([115,116,101,112]:Str) ([]:Str) [(aK.mk ([121]:Str) (aj.mk 9 ([]:Str) (ah.mk 0 false 0 ([]:Str) [] []) [x4,x5] []))] [])])]) rfl tJ rfl rfl rfl (by first | rfl | simp only [List.map,au.aD,au.aM]) ?_))
  refine U 1 rfl (AS rfl (AO.aC rfl Dt (fun b10=>(Rr 5 [0,0] rfl rfl (AS rfl (AO.bq (List.map aA.cells [(aA.mk ([109]:Str) v1)]) rfl DC rfl rfl rfl (by first | rfl | simp only [List.map,aA.aD]) ?_)))))); obtain ⟨x8,e1,h10,hf⟩:=bP hf; refine CL Z (w9 _ _ h10 (U 3 Z (AS Z (AO.aC Z Dt (fun b11=>(Rr 5 [0] Z Z (AR.or 5 59 64 [2,11] (x:=((x8.blocks.length:Int) != 1)) Z Z (fun h11=>?_) (fun h11=>?_) ?_)))))))
  · refine Is 59 h11 Z (U 1 Z (GO Z (AO.aR (i:=0) Z Z Z rZ Z Z (GO Z (AO.aO (l:=x8.blocks) Z Z Z Z jG Z (au.aB _) ?_))))); exact fI 2 Z (En [64,2,11] Z)
  · refine Is 59 h11 Z ?_; exact fI 5 Z (En [64,2,11] Z)
  refine B1 hf fun b1 lZ hf=>U 1 Z (AR.fK 8 65 73 false [2,11] b1 Z Z (fun h12=>?_) (fun h12=>?_) ?_)
  · replace lZ:=iw h12 lZ; refine Is 65 h12 Z (U 1 Z (GO Z (AO.aR (i:=0) Z Z Z rZ Z Z ?_))); refine B1 lZ fun e2 nu lZ=>GO Z (AO.aP nu Z Z (au.aB _) Z jG (au.aD _) Z (U 2 Z (GO Z (AO.aO (l:=e2.attrs) Z Z Z Z o9 Z Z ?_)))); cases lZ; exact fI 2 Z (En [73,2,11] Z)
  · refine IT 65 h12 lZ Z fun lZ=>?_; cases lZ; exact fI 8 Z (En [73,2,11] Z)
  refine B1 hf fun b2 h16 hf=>U 1 Z (AR.fK 8 74 82 false [2,11] b2 Z Z (fun tq=>?_) (fun tq=>?_) ?_)
  · replace h16:=iw tq h16; refine Is 74 tq Z (U 1 Z (GO Z (AO.aR (i:=0) Z Z Z rZ Z Z ?_))); refine B1 h16 fun e3 Ao h16=>GO Z (AO.aP Ao Z Z (au.aB _) Z jG (au.aD _) Z (U 2 Z (GO Z (AO.aO (l:=e3.blocks) Z Z Z Z jG Z (au.aB _) ?_)))); cases h16; exact fI 2 Z (En [82,2,11] Z)
  · refine IT 74 tq h16 Z fun h16=>?_; cases h16; exact fI 8 Z (En [82,2,11] Z)
  refine B1 hf fun b3 h19 hf=>U 1 Z (AR.fK 11 83 94 false [2,11] b3 Z Z (fun h18=>?_) (fun h18=>?_) ?_)
  · replace h19:=iw h18 h19; refine Is 83 h18 Z (U 1 Z (GO Z (AO.aR (i:=0) Z Z Z rZ Z Z ?_))); refine B1 h19 fun e4 h20 h19=>GO Z (AO.aP h20 Z Z (au.aB _) Z jG (au.aD _) Z ?_); refine B1 h19 fun e5 h21 h19=>U 2 Z (GO Z (AO.aP h21 Z Z (au.aB _) Z jG (au.aD _) Z (U 2 Z (GO Z (AO.aO (l:=e5.attrs) Z Z Z Z o9 Z Z ?_))))); cases h19; exact fI 2 Z (En [94,2,11] Z)
  · refine IT 83 h18 h19 Z fun h19=>?_; cases h19; exact fI 11 Z (En [94,2,11] Z)
  refine J 0 Z (C hf Z (fun h22 hf=>?_) fun h22 hf=>?_)
  · cases hf; exact M 1 Z (Y Z h)
  refine B1 hf fun x9 h23 hf=>W 1 Z (CL Z (rM _ h23 ?_)); refine B1 hf fun Il Ti hf=>CL rfl (wJ _ Ti (AS rfl (AO.bq (aj.aM [x9,Il]) rfl u_ rfl rfl rfl (by first | rfl | simp only [List.map,aj.aD,aj.aM]) ?_))); refine U 1 Z (AS Z (AO.aC Z iO (fun b13=>(Rw 1 [0] Z Z (AW.draw 30 mixed (by kernel_rfl) Z ?_))))); refine Ev.cs bC 1 Z (Ev.cons Z Z Z (AO.aR (i:=1) Z Z Z rZ Z Z zg) ?_); refine B1 hf fun e6 Ux hf=>Ev.cons Z Z Z (AO.aP Ux Z Z (au.aB _) Z jG (au.aD _) Z zg) (Ev.cs bC 2 Z ?_)
  refine B1 hf fun e7 Uw hf=>Ev.cons Z Z Z (AO.aP Uw Z Z Z Z o9 (aK.aD _) Z zg) (Ev.cs bC 3 Z ?_); refine B1 hf fun Li h27 hf=>Ev.cons Z Z Z (AO.call Z _ Z Z abA (rM _ h27 zg)) ?_; refine B1 hf fun SB Uv hf=>Ev.cons Z Z Z (AO.call Z _ Z Z WG (Af _ _ Uv zg)) (Ev.cs bC 1 Z ?_); refine B1 hf fun b4 NZ hf=>Ev.fK hKA 14 111 125 true [] (.bool b4) Z Z (fun KX=>?_) (fun KX=>?_) ?_
  ·
   replace NZ:=jF KX NZ; refine Ev.is W_ 111 KX Z (Ev.cs bC 1 Z (Ev.run Z Z Z Z Z Z Z (AO.aR (i:=1) Z Z Z rZ Z Z zg) ?_)); refine B1 NZ fun e8 h31 NZ=>Ev.run Z Z Z Z Z Z Z (AO.aP h31 Z Z (au.aB _) Z jG (au.aD _) Z zg) (Ev.cs bC 2 Z ?_); refine B1 NZ fun e9 h32 NZ=>Ev.run Z Z Z Z Z Z Z (AO.aP h32 Z Z (au.aB _) Z jG (au.aD _) Z zg) (Ev.cs bC 2 Z ?_); refine B1 NZ fun e10 XJ NZ=>?_; refine Ev.run Z Z Z Z Z Z Z (AO.aP XJ Z Z Z Z o9 (aK.aD _) Z zg) (Ev.cs bC 2 Z (Ev.run Z Z Z Z Z Z Z (AO.aR (i:=0) Z Z Z gM Z Z zg) ?_)); refine BR NZ fun YB h34 NZ=>?_; refine Ev.run Z Z Z Z Z Z Z (AO.call Z _ Z Z WG (Af _ _ h34 zg)) ?_; cases NZ; refine Ev.cs bC 1 Z ?_; exact Ev.nil (Less.settle (ps:=[125]) Z)
  · replace NZ:=iw KX NZ; refine Ev.is W_ 111 KX Z ?_; cases NZ; refine Ev.cs bC 14 Z ?_; exact Ev.nil (Less.settle (ps:=[125]) Z)
  refine Ev.cs bC 1 Z ?_; refine BR hf fun b5 Vp hf=>?_; refine Ev.fK hKA 2 126 128 true [] (.bool b5) Z Z (fun Y8=>?_) (fun Y8=>?_) ?_
  · replace Vp:=jF Y8 Vp; refine Ev.is W_ 126 Y8 Z ?_; refine BR Vp fun Zv h37 Vp=>?_; refine Ev.run Z Z Z Z Z Z Z (AO.call Z _ Z Z agN (JK  h37 zg)) ?_; cases Vp; refine Ev.cs bC 1 Z ?_; exact Ev.nil (Less.settle (ps:=[128]) Z)
  · replace Vp:=iw Y8 Vp; refine Ev.is W_ 126 Y8 Z ?_; cases Vp; refine Ev.cs bC 2 Z ?_; exact Ev.nil (Less.settle (ps:=[128]) Z)
  refine Ev.cs bC 1 Z (Ev.nil ?_); show AR _ _ _ _ _ _ _ _; cases hf; exact N 0 Z (Y Z h)
 refine B1 hf fun XQ h38 hf=>W 1 rfl (CL rfl (wJ _ h38 (U 1 rfl (AS rfl (AO.bq (List.map aK.cells [(aK.mk ([110]:Str) XQ)]) rfl xq rfl rfl rfl (by first | rfl | simp only [List.map,aK.aD]) ?_))))); refine U 1 rfl (AS rfl (AO.aC rfl nP (fun ajG=>(Rr 2 [0,0] rfl rfl (AS rfl (AO.bq (au.aM [(au.mk ([117,115,101]:Str) ([116]:Str) [(aK.mk ([110]:Str) XQ)] [])]) rfl tJ rfl rfl rfl (by first | rfl | simp only [List.map,au.aD,au.aM]) ?_))))))
 refine Rr 2 [1] rfl rfl (AS rfl (AO.bq (au.aM [(au.mk ([106,111,98]:Str) ([]:Str) [] [(au.mk ([117,115,101]:Str) ([116]:Str) [(aK.mk ([110]:Str) XQ)] [])]),(au.mk ([116,101,109,112,108,97,116,101]:Str) ([116]:Str) [(aK.mk ([120]:Str) x6)] [(au.mk ([112,97,114,97,109]:Str) ([110]:Str) [(aK.mk ([116,121,112,101]:Str) x3)] []),(au.mk ([115,116,101,112]:Str) ([]:Str) [(aK.mk ([121]:Str) (aj.mk 9 ([]:Str) (ah.mk 0 false 0 ([]:Str) [] []) [x4,x5] []))] [])])]) rfl tJ rfl rfl rfl (by first | rfl | simp only [List.map,au.aD,au.aM]) ?_))
 refine U 1 rfl (AS rfl (AO.aC rfl Dt (fun ajg=>(Rr 5 [0,0] rfl rfl (AS rfl (AO.bq (List.map aA.cells [(aA.mk ([110]:Str) v1)]) rfl DC rfl rfl rfl (by first | rfl | simp only [List.map,aA.aD]) ?_)))))); obtain ⟨Qg,e11,h39,hf⟩:=bP hf; refine CL Z (w9 _ _ h39 (U 3 Z (AS Z (AO.aC Z Dt (fun ajf=>(Rr 5 [0] Z Z (AR.or 5 59 64 [2,11] (x:=((Qg.blocks.length:Int) != 1)) Z Z (fun h40=>?_) (fun h40=>?_) ?_)))))))
 · refine Is 59 h40 Z (U 1 Z (GO Z (AO.aR (i:=0) Z Z Z rZ Z Z (GO Z (AO.aO (l:=Qg.blocks) Z Z Z Z jG Z (au.aB _) ?_))))); exact fI 2 Z (En [64,2,11] Z)
 · refine Is 59 h40 Z ?_; exact fI 5 Z (En [64,2,11] Z)
 refine B1 hf fun b6 Z9 hf=>U 1 Z (AR.fK 8 65 73 false [2,11] b6 Z Z (fun h41=>?_) (fun h41=>?_) ?_)
 · replace Z9:=iw h41 Z9; refine Is 65 h41 Z (U 1 Z (GO Z (AO.aR (i:=0) Z Z Z rZ Z Z ?_))); refine B1 Z9 fun e12 h43 Z9=>GO Z (AO.aP h43 Z Z (au.aB _) Z jG (au.aD _) Z (U 2 Z (GO Z (AO.aO (l:=e12.attrs) Z Z Z Z o9 Z Z ?_)))); cases Z9; exact fI 2 Z (En [73,2,11] Z)
 · refine IT 65 h41 Z9 Z fun Z9=>?_; cases Z9; exact fI 8 Z (En [73,2,11] Z)
 refine B1 hf fun b7 h45 hf=>U 1 Z (AR.fK 8 74 82 false [2,11] b7 Z Z (fun h44=>?_) (fun h44=>?_) ?_)
 · replace h45:=iw h44 h45; refine Is 74 h44 Z (U 1 Z (GO Z (AO.aR (i:=0) Z Z Z rZ Z Z ?_))); refine B1 h45 fun e13 h46 h45=>GO Z (AO.aP h46 Z Z (au.aB _) Z jG (au.aD _) Z (U 2 Z (GO Z (AO.aO (l:=e13.blocks) Z Z Z Z jG Z (au.aB _) ?_)))); cases h45; exact fI 2 Z (En [82,2,11] Z)
 · refine IT 74 h44 h45 Z fun h45=>?_; cases h45; exact fI 8 Z (En [82,2,11] Z)
 refine B1 hf fun b8 h48 hf=>U 1 Z (AR.fK 11 83 94 false [2,11] b8 Z Z (fun h47=>?_) (fun h47=>?_) ?_)
 · replace h48:=iw h47 h48; refine Is 83 h47 Z (U 1 Z (GO Z (AO.aR (i:=0) Z Z Z rZ Z Z ?_))); refine B1 h48 fun e14 h49 h48=>GO Z (AO.aP h49 Z Z (au.aB _) Z jG (au.aD _) Z ?_); refine B1 h48 fun e15 h50 h48=>U 2 Z (GO Z (AO.aP h50 Z Z (au.aB _) Z jG (au.aD _) Z (U 2 Z (GO Z (AO.aO (l:=e15.attrs) Z Z Z Z o9 Z Z ?_))))); cases h48; exact fI 2 Z (En [94,2,11] Z)
 · refine IT 83 h47 h48 Z fun h48=>?_; cases h48; exact fI 11 Z (En [94,2,11] Z)
 refine J 0 Z (C hf Z (fun h51 hf=>?_) fun h51 hf=>?_)
 · cases hf; exact M 1 Z (Y Z h)
 refine B1 hf fun XG h52 hf=>W 1 Z (CL Z (rM _ h52 ?_)); refine B1 hf fun Zu h53 hf=>CL rfl (wJ _ h53 (AS rfl (AO.bq (aj.aM [XG,Zu]) rfl u_ rfl rfl rfl (by first | rfl | simp only [List.map,aj.aD,aj.aM]) ?_))); refine U 1 Z (AS Z (AO.aC Z iO (fun aje=>(Rw 1 [0] Z Z (AW.draw 30 mixed (by kernel_rfl) Z ?_))))); refine Ev.cs bC 1 Z (Ev.cons Z Z Z (AO.aR (i:=1) Z Z Z rZ Z Z zg) ?_); refine B1 hf fun e16 h54 hf=>Ev.cons Z Z Z (AO.aP h54 Z Z (au.aB _) Z jG (au.aD _) Z zg) (Ev.cs bC 2 Z ?_)
 refine B1 hf fun e17 h55 hf=>Ev.cons Z Z Z (AO.aP h55 Z Z Z Z o9 (aK.aD _) Z zg) (Ev.cs bC 3 Z ?_); refine B1 hf fun x19 h56 hf=>Ev.cons Z Z Z (AO.call Z _ Z Z abA (rM _ h56 zg)) ?_; refine B1 hf fun x20 h57 hf=>Ev.cons Z Z Z (AO.call Z _ Z Z WG (Af _ _ h57 zg)) (Ev.cs bC 1 Z ?_); refine B1 hf fun b9 XI hf=>Ev.fK hKA 14 111 125 true [] (.bool b9) Z Z (fun h58=>?_) (fun h58=>?_) ?_
 ·
  replace XI:=jF h58 XI; refine Ev.is W_ 111 h58 Z (Ev.cs bC 1 Z (Ev.run Z Z Z Z Z Z Z (AO.aR (i:=1) Z Z Z rZ Z Z zg) ?_)); refine B1 XI fun e18 h60 XI=>Ev.run Z Z Z Z Z Z Z (AO.aP h60 Z Z (au.aB _) Z jG (au.aD _) Z zg) (Ev.cs bC 2 Z ?_); refine B1 XI fun e19 h61 XI=>Ev.run Z Z Z Z Z Z Z (AO.aP h61 Z Z (au.aB _) Z jG (au.aD _) Z zg) (Ev.cs bC 2 Z ?_); refine B1 XI fun e20 h62 XI=>?_; refine Ev.run Z Z Z Z Z Z Z (AO.aP h62 Z Z Z Z o9 (aK.aD _) Z zg) (Ev.cs bC 2 Z (Ev.run Z Z Z Z Z Z Z (AO.aR (i:=0) Z Z Z gM Z Z zg) ?_)); refine BR XI fun x21 h63 XI=>?_; refine Ev.run Z Z Z Z Z Z Z (AO.call Z _ Z Z WG (Af _ _ h63 zg)) ?_; cases XI; refine Ev.cs bC 1 Z ?_; exact Ev.nil (Less.settle (ps:=[125]) Z)
 · replace XI:=iw h58 XI; refine Ev.is W_ 111 h58 Z ?_; cases XI; refine Ev.cs bC 14 Z ?_; exact Ev.nil (Less.settle (ps:=[125]) Z)
 refine Ev.cs bC 1 Z ?_; refine BR hf fun b10 h65 hf=>?_; refine Ev.fK hKA 2 126 128 true [] (.bool b10) Z Z (fun h64=>?_) (fun h64=>?_) ?_
 · replace h65:=jF h64 h65; refine Ev.is W_ 126 h64 Z ?_; refine BR h65 fun x22 h66 h65=>?_; refine Ev.run Z Z Z Z Z Z Z (AO.call Z _ Z Z agN (JK  h66 zg)) ?_; cases h65; refine Ev.cs bC 1 Z ?_; exact Ev.nil (Less.settle (ps:=[128]) Z)
 · replace h65:=iw h64 h65; refine Ev.is W_ 126 h64 Z ?_; cases h65; refine Ev.cs bC 2 Z ?_; exact Ev.nil (Less.settle (ps:=[128]) Z)
 refine Ev.cs bC 1 Z (Ev.nil ?_); show AR _ _ _ _ _ _ _ _; cases hf; exact N 0 Z (Y Z h)
end
end Go.Proofs.YtcohpegjnpcgcaaGreatDoor
