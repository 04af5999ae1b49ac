/- Proved here: the walk of TemplateValues, at the arguments of the row. -/
import Derived.Test.YtcohpegjnpcgcaaGreatDoorTvWalk3
import Derived.Test.YtcohpegjnpcgcaaGreatDoorTvPlain1
import Derived.Test.YtcohpegjnpcgcaaGreatDoorRows
import Derived.Test.YtcohpegjnpcgcaaGreatDoorCards
import Derived.Test.YtcohpegjnpcgcaaGreatDoorTie
import Derived.WalkKit
import Derived.ProofKit
import Derived.OpenShut
import Derived.JoinedCond
import Derived.Deep.DeepHandedRow
import Derived.Deep.DeepWitnessRowRef
import Derived.Lay
import Derived.SevenTiedAt
import Derived.MakeChecks
set_option linter.unusedVariables false
set_option linter.unusedSimpArgs false
set_option linter.unusedSectionVars false
namespace Go.Proofs.YtcohpegjnpcgcaaGreatDoor
open Go Go.Abs Go.Ft
section
variable [iJ]
theorem abL {c:List PV} {N:Nat} (h:F5 Tryz.prog 3 c N):∃ x:Int,c=[.int .i64 x]∧1≤N:=by
 obtain ⟨n,rfl,hw,rfl⟩:=h.adn Tryz.underlying3
 exact ⟨n,rfl,Nat.le_refl _⟩
theorem abK {c:List PV} {N:Nat} (h:F5 Tryz.prog 4 c N):∃ x:Bool,c=[.bool x]∧1≤N:=by
 obtain ⟨b,rfl,rfl⟩:=h.Zl Tryz.underlying4
 exact ⟨b,rfl,Nat.le_refl _⟩
theorem abJ {c:List PV} {N:Nat} (h:F5 Tryz.prog 9 c N):∃ x:Str,c=[.str x]∧(x.length + 1)≤N:=by
 obtain ⟨s,rfl,rfl⟩:=h.ac9 Tryz.underlying9
 exact ⟨s,rfl,Nat.le_refl _⟩
theorem adg {c:List PV} {N:Nat} (h:F5 Tryz.prog 40 c N):∃ x:List Str,c=[.list (List.map nD x)]∧((List.map (fun z:Str=>(z.length + 1)) x).sum + 1)≤N:=by
 obtain ⟨l,rfl,rfl,hl⟩:=h.Qz Tryz.underlying40
 obtain ⟨xs,h1,h2⟩:=Ri (f:=nD) (μ:=fun z:Str=>(z.length + 1)) fun x hx=>abJ (hl x hx)
 exact ⟨xs,by rw [h1],by omega⟩
theorem adf :∀ {c:List PV} {N:Nat} (h:F5 Tryz.prog 42 c N),∃ x:ah,c=ah.cells x∧(ah.bulk x)≤N:=by
 have key:∀ (M:Nat) {c:List PV},F5 Tryz.prog 42 c M→∃ x:ah,c=ah.cells x∧(ah.bulk x)≤M:=by
  intro M
  induction M using Nat.strongRecOn with
  | _ M ih=>
   intro c h
   obtain ⟨ps,rfl,hNe,hlen,hz⟩:=h.YN Tryz.underlying42
   match ps,hlen with
   | [p0,p1,p2,p3,p4,p5],_=>
    have hN:=hNe
    simp only [List.map_cons,List.map_nil,List.sum_cons,List.sum_nil] at hN
    have k0:F5 Tryz.prog 3 p0.1 p0.2:=hz _ (List.mem_of_getElem? (i:=0) rfl)
    obtain ⟨x0,c0,b0⟩:=abL k0
    have k1:F5 Tryz.prog 4 p1.1 p1.2:=hz _ (List.mem_of_getElem? (i:=1) rfl)
    obtain ⟨x1,c1,b1⟩:=abK k1
    have k2:F5 Tryz.prog 3 p2.1 p2.2:=hz _ (List.mem_of_getElem? (i:=2) rfl)
    obtain ⟨x2,c2,b2⟩:=abL k2
    have k3:F5 Tryz.prog 9 p3.1 p3.2:=hz _ (List.mem_of_getElem? (i:=3) rfl)
    obtain ⟨x3,c3,b3⟩:=abJ k3
    have k4:F5 Tryz.prog 39 p4.1 p4.2:=hz _ (List.mem_of_getElem? (i:=4) rfl)
    obtain ⟨l4,e4,m4,hl4⟩:=k4.Qz Tryz.underlying39
    have aio:∀ x∈l4,x.2≤(l4.map (·.2)).sum:=fun x hx=>abT hx
    obtain ⟨as4,q4,r4⟩:=Ri (f:=ah.cells) (μ:=ah.bulk) fun x hx=>ih x.2 (by have:=aio x hx; omega) (hl4 x hx)
    obtain ⟨x4,c4,b4⟩:∃ x:List ah,p4.1=[.list (ah.aM x)]∧ah.pz x + 1≤p4.2:=⟨as4,by rw [e4,q4,ah.aB],by rw [ah.sV]; omega⟩
    have k5:F5 Tryz.prog 40 p5.1 p5.2:=hz _ (List.mem_of_getElem? (i:=5) rfl)
    obtain ⟨x5,c5,b5⟩:=adg k5
    refine ⟨⟨x0,x1,x2,x3,x4,x5⟩,?_,?_⟩
    ·
     simp only [List.map_cons,List.map_nil,List.flatten_cons,List.flatten_nil,c0,c1,c2,c3,c4,c5]
     first | rfl | simp [ah.cells]
    ·
     simp only [List.map_cons,List.map_nil,List.sum_cons,List.sum_nil] at *
     first | (simp only [ah.bulk]; omega) | (rw [ah.rF]; simp only; omega)
 intro c N h
 exact key N h
end
namespace templateValues
open Go.ChangeShapes Go.WideShapes Go.ChangeAt Go.RowKit
theorem own :ownKnob Tryz.prog.godebug=none:=by kernel_rfl
theorem laidOut :laidOutB Tryz.prog=true:=by kernel_rfl
mutual
theorem B_ {H:Type}:∀ d:DataW H,Rows.uptoBulk d=rG d
 | .lit (.string _)=>by simp only [Rows.uptoBulk,rG]
 | .lit (.bool _)=>by simp only [Rows.uptoBulk,rG]
 | .lit (.int _ _)=>by simp only [Rows.uptoBulk,rG]
 | .lit (.float _ _)=>by simp only [Rows.uptoBulk,rG]
 | .lit .nil=>by simp only [Rows.uptoBulk,rG]
 | .nil=>by simp only [Rows.uptoBulk,rG]
 | .ptr d=>by simp only [Rows.uptoBulk,rG,B_ d]
 | .slice a b=>by simp only [Rows.uptoBulk,rG,JU a,JU b]
 | .agg a=>by simp only [Rows.uptoBulk,rG,JU a]
 | .iface _ d=>by simp only [Rows.uptoBulk,rG,B_ d]
 | .map a=>by simp only [Rows.uptoBulk,rG,UK a]
 | .held _=>by simp only [Rows.uptoBulk,rG]
theorem JU {H:Type}:∀ l:List (DataW H),Rows.uptoBulkAll l=pE l
 | []=>by simp only [Rows.uptoBulkAll,pE]
 | d :: r=>by simp only [Rows.uptoBulkAll,pE,B_ d,JU r]
theorem UK {H:Type}:∀ l:List (Lit × DataW H),Rows.uptoBulkEntries l=Ah l
 | []=>by simp only [Rows.uptoBulkEntries,Ah]
 | x :: r=>by simp only [Rows.uptoBulkEntries,Ah,aco x,UK r]
theorem aco {H:Type}:∀ x:Lit × DataW H,Rows.uptoBulkEntry x=yT x
 | (.string _,d)=>by simp only [Rows.uptoBulkEntry,yT,B_ d]
 | (.bool _,d)=>by simp only [Rows.uptoBulkEntry,yT,B_ d]
 | (.int _ _,d)=>by simp only [Rows.uptoBulkEntry,yT,B_ d]
 | (.float _ _,d)=>by simp only [Rows.uptoBulkEntry,yT,B_ d]
 | (.nil,d)=>by simp only [Rows.uptoBulkEntry,yT,B_ d]
end
instance ai9 :iJ:=ahy [0] [6,7] [(1,Lib.pow10Tab.map fun z=>Value.int .u64 z)]
instance evI :Am where
 hD:=id
 max:=fun w m h=>(h.1 0 (by simp)).2
 pow:=fun w m h=>aal (g:=1) (by kernel_rfl) (by decide) fun off=>(h.2.2 (1,Lib.pow10Tab.map fun z=>Value.int .u64 z) (by simp) off).2
 syn:=fun w m h=>by
  obtain ⟨_,u,v,e⟩:=h.2.1 6 (by simp)
  exact ⟨_,e,.inr ⟨_,_,rfl⟩⟩
 rng:=fun w m h=>by
  obtain ⟨_,u,v,e⟩:=h.2.1 7 (by simp)
  exact ⟨_,e,.inr ⟨_,_,rfl⟩⟩
/-- the walk,over any arguments of the parameters' types -/
theorem walk :∀ qs N,VW Tryz.prog [42,4] qs N→N≤1048576→AC Tryz.prog 5 qs [] fun out _=>out=.ret (.bool true):=by
 intro qs N h hN
 obtain ⟨q0,qs0,A0,B0,rfl,e0,t0,g0⟩:=h
 obtain ⟨cs0,rfl,u0⟩:=t0.ahM ⟨_,Tryz.underlying42⟩
 obtain ⟨x0,rfl,m0⟩:=adf u0
 rw [ah.aD]
 obtain ⟨q1,qs1,A1,B1,rfl,e1,t1,g1⟩:=g0
 have u1:=t1.ZX (by rw [Tryz.underlying4]; simp) (by rw [Tryz.underlying4]; simp)
 obtain ⟨x1,hx1,m1⟩:=abK u1
 simp only [List.cons.injEq,and_true] at hx1
 subst hx1
 obtain ⟨rfl,e2⟩:=g1
 exact JL _ _ (LP x0 x1 (by omega)) rfl
theorem afB {W:World} (hL:laidMet Tryz.prog [("math/bits.deBruijn32tab",Rows.laid_math_bits_deBruijn32tab),("math/bits.deBruijn64tab",Rows.laid_math_bits_deBruijn64tab),("internal/strconv.uint64pow10",Rows.laid_internal_strconv_uint64pow10),("unicode/utf8.acceptRanges",Rows.laid_unicode_utf8_acceptRanges),("strconv.ErrRange",Rows.laid_strconv_ErrRange),("strconv.ErrSyntax",Rows.laid_strconv_ErrSyntax),("unicode/utf8.first",Rows.laid_unicode_utf8_first)] W) (hS:W.ShapedOpen Tryz.prog):iJ.G W (yU W):=by
 refine ⟨fun g hg=>?_,fun g hg=>?_,fun p hp=>?_⟩
 ·
  obtain rfl:=List.mem_singleton.1 hg
  obtain ⟨n,hn⟩:=Go.Proofs.cell_of_shapedOpen_int (g:=0) (zero:=#[.int .i64 0]) (t:=3) hS (of_decide_eq_true (by kernel_rfl)) (by kernel_rfl) rfl (by kernel_rfl) (by kernel_rfl) Tryz.underlying3
  exact ⟨RP hn,n,hn⟩
 ·
  simp only [List.mem_cons,List.not_mem_nil,or_false] at hg
  rcases hg with rfl | rfl
  ·
   obtain ⟨u,v,e⟩:=Rm (g:=6) (t:=169) hL.tail.tail.tail.tail.tail (by kernel_rfl) (by kernel_rfl) (show Tryz.prog.underlying 169=some (.interface (Tryz.prog.methodsAt 169)) by kernel_rfl)
   exact ⟨RP e,u,v,e⟩
  ·
   obtain ⟨u,v,e⟩:=Rm (g:=7) (t:=169) hL.tail.tail.tail.tail (by kernel_rfl) (by kernel_rfl) (show Tryz.prog.underlying 169=some (.interface (Tryz.prog.methodsAt 169)) by kernel_rfl)
   exact ⟨RP e,u,v,e⟩
 ·
  obtain rfl:=List.mem_singleton.1 hp
  exact ZE (by kernel_rfl) (Lib.tabIs_of_head (g:=1) (t:=275) (e:=252) (n:=20) (by kernel_rfl) (by kernel_rfl) (by kernel_rfl) (by kernel_rfl) (by kernel_rfl) (by kernel_rfl) (show laidMet Tryz.prog (("internal/strconv.uint64pow10",Lib.tabData .u64 Lib.pow10Tab) :: _) W from hL.tail.tail))
theorem abU (os:Os):laidMet Tryz.prog Rows.templateValuesUptoRow.laid ((World.laidAll Tryz.prog os Rows.templateValuesUptoRow.laid).forCall (fun _ _=>0) ⟨#[],#[.agg #[.int .i64 0,.bool false,.int .i64 0,.string ⟨#[]⟩,.slice none 0 0,.slice none 0 0],.bool false],[]⟩).memory:=
 laidMet_laidAll _ (by kernel_rfl) (by kernel_rfl)
theorem reads (os:Os) {H:Type} (enc:TypeId × Value→H):∃ places,DataW.whole enc Tryz.prog ((World.laidAll Tryz.prog os Rows.templateValuesUptoRow.laid).forCall (fun _ _=>0) ⟨#[],#[.agg #[.int .i64 0,.bool false,.int .i64 0,.string ⟨#[]⟩,.slice none 0 0,.slice none 0 0],.bool false],[]⟩).memory Tryz.f5.params.toList Rows.templateValuesSpec.vars false (#[.agg #[.int .i64 0,.bool false,.int .i64 0,.string ⟨#[]⟩,.slice none 0 0,.slice none 0 0],.bool false]:Array Value).toList 8=some ([.agg [.lit (.int .i64 0),.lit (.bool false),.lit (.int .i64 0),.lit (.string []),.nil,.nil],.lit (.bool false)],[],places):=
 ⟨[],by kernel_rfl⟩
set_option maxRecDepth 100000 in
theorem lifted (os:Os) (started:os.Started) (H:Type) (enc:TypeId × Value→H) (F:Stop.Interp):
  ReturnsInHanded {} Tryz.checked os 5 .any ((Rows.OpenSpec.upto Rows.templateValuesSpec).preRow enc Tryz.prog Tryz.f5 Rows.templateValuesUptoRow.domain false Rows.templateValuesUptoRow.laid) (((Rows.OpenSpec.upto Rows.templateValuesSpec).at F).post enc Tryz.prog Tryz.f5 false true false false):=by
 obtain ⟨places,hx⟩:=reads os enc
 refine returnsInHanded_of_row (C:=Tryz.checked) (s:=Rows.OpenSpec.upto Rows.templateValuesSpec) own started (by kernel_rfl) Tryz.func5
  (witness_row_atRef (enc:=enc) (C:=Tryz.checked) false (World.laidAll Tryz.prog os Rows.templateValuesUptoRow.laid) #[.agg #[.int .i64 0,.bool false,.int .i64 0,.string ⟨#[]⟩,.slice none 0 0,.slice none 0 0],.bool false] (World.laidAll_os _ _ _) (by kernel_rfl) (by kernel_rfl) (by kernel_rfl)
   (OpenSpec.preRow_of_cond 8 hx (by kernel_rfl) (fun k hk=>by cases hk; kernel_rfl) (by kernel_rfl) (by rw [MakeChecks.laidMetH_plain _ _ _ (by kernel_rfl)]; exact abU os))) ?_
 intro W base args ds gs before hval hW _ hcond _ hlaid hshape _
 rw [MakeChecks.laidMetH_plain _ _ _ (by kernel_rfl)] at hlaid
 have hk:=hcond _ rfl
 have hk2:pE (ds ++ gs)≤1048576:=by
  have:=of_decide_eq_true hk
  rw [JU] at this
  exact this
 have hgs:gs=[]:=by
  obtain ⟨p,q,hA,hV,rfl,hfz,hnd⟩:=hW
  cases gs with
  | nil=>rfl
  | cons g gs=>exact hV.elim
 subst hgs
 rw [List.append_nil] at hk2
 refine Z6 (P:=Tryz.prog) (S:=[3,4,9,39,40,42]) (tb:=4) (by kernel_rfl) (by rw [Tryz.params5]; decide) (by rw [Tryz.params5]; exact of_decide_eq_true (by kernel_rfl)) laidOut (by kernel_rfl) Tryz.underlying4 rfl ?_ (fun qs N h hN=>by rw [Tryz.params5] at h; exact walk qs N h (by omega)) hval hW (afB hlaid hshape)
 rw [Tryz.params5]
 intro ds hd
 match ds,hd with
 | [d0,d1],_=>rfl
end templateValues
end Go.Proofs.YtcohpegjnpcgcaaGreatDoor
