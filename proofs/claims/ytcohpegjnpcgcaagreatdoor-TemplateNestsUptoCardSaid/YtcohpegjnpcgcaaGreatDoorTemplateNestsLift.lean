/- Proved here: the walk of TemplateNests, at the arguments of the row. -/
import Derived.Test.YtcohpegjnpcgcaaGreatDoorTnWalk3
import Derived.Test.YtcohpegjnpcgcaaGreatDoorTnPlain1
import Derived.Test.YtcohpegjnpcgcaaGreatDoorRows
import Derived.Test.YtcohpegjnpcgcaaGreatDoorCards
import Derived.Test.YtcohpegjnpcgcaaGreatDoorTie
import Derived.WalkKit
import Derived.ProofKit
import Derived.OpenShut
import Derived.JoinedCond
import Derived.Deep.DeepHandedRow
import Derived.Deep.DeepWitnessRowRef
import Derived.Lay
import Derived.SevenTiedAt
import Derived.MakeChecks
set_option linter.unusedVariables false
set_option linter.unusedSimpArgs false
set_option linter.unusedSectionVars false
namespace Go.Proofs.YtcohpegjnpcgcaaGreatDoor
open Go Go.Abs Go.Ft
section
variable [iq]
theorem aam {c:List PV} {N:Nat} (h:Rf Tryz.prog 5 c N):∃ x:UInt8,c=[.int .u8 (x.toNat:Int)]∧1≤N:=by
 obtain ⟨n,rfl,hw,rfl⟩:=h.Yl Tryz.underlying5
 obtain ⟨c,rfl⟩:=wf_u8 hw
 exact ⟨c,rfl,Nat.le_refl _⟩
end
namespace templateNests
open Go.ChangeShapes Go.WideShapes Go.ChangeAt Go.RowKit
theorem own :ownKnob Tryz.prog.godebug=none:=by kernel_rfl
theorem laidOut :laidOutB Tryz.prog=true:=by kernel_rfl
mutual
theorem zl {H:Type}:∀ d:DataW H,Rows.uptoBulk d=o7 d
 | .lit (.string _)=>by simp only [Rows.uptoBulk,o7]
 | .lit (.bool _)=>by simp only [Rows.uptoBulk,o7]
 | .lit (.int _ _)=>by simp only [Rows.uptoBulk,o7]
 | .lit (.float _ _)=>by simp only [Rows.uptoBulk,o7]
 | .lit .nil=>by simp only [Rows.uptoBulk,o7]
 | .nil=>by simp only [Rows.uptoBulk,o7]
 | .ptr d=>by simp only [Rows.uptoBulk,o7,zl d]
 | .slice a b=>by simp only [Rows.uptoBulk,o7,Gs a,Gs b]
 | .agg a=>by simp only [Rows.uptoBulk,o7,Gs a]
 | .iface _ d=>by simp only [Rows.uptoBulk,o7,zl d]
 | .map a=>by simp only [Rows.uptoBulk,o7,Qa a]
 | .held _=>by simp only [Rows.uptoBulk,o7]
theorem Gs {H:Type}:∀ l:List (DataW H),Rows.uptoBulkAll l=ng l
 | []=>by simp only [Rows.uptoBulkAll,ng]
 | d :: r=>by simp only [Rows.uptoBulkAll,ng,zl d,Gs r]
theorem Qa {H:Type}:∀ l:List (Lit × DataW H),Rows.uptoBulkEntries l=xG l
 | []=>by simp only [Rows.uptoBulkEntries,xG]
 | x :: r=>by simp only [Rows.uptoBulkEntries,xG,Xk x,Qa r]
theorem Xk {H:Type}:∀ x:Lit × DataW H,Rows.uptoBulkEntry x=vU x
 | (.string _,d)=>by simp only [Rows.uptoBulkEntry,vU,zl d]
 | (.bool _,d)=>by simp only [Rows.uptoBulkEntry,vU,zl d]
 | (.int _ _,d)=>by simp only [Rows.uptoBulkEntry,vU,zl d]
 | (.float _ _,d)=>by simp only [Rows.uptoBulkEntry,vU,zl d]
 | (.nil,d)=>by simp only [Rows.uptoBulkEntry,vU,zl d]
end
instance adC :iq:=aco [0] [6,7] [(1,Lib.pow10Tab.map fun z=>Value.int .u64 z)]
instance evI :xJ where
 hD:=id
 max:=fun w m h=>(h.1 0 (by simp)).2
 pow:=fun w m h=>Vd (g:=1) (by kernel_rfl) (by decide) fun off=>(h.2.2 (1,Lib.pow10Tab.map fun z=>Value.int .u64 z) (by simp) off).2
 syn:=fun w m h=>by
  obtain ⟨_,u,v,e⟩:=h.2.1 6 (by simp)
  exact ⟨_,e,.inr ⟨_,_,rfl⟩⟩
 rng:=fun w m h=>by
  obtain ⟨_,u,v,e⟩:=h.2.1 7 (by simp)
  exact ⟨_,e,.inr ⟨_,_,rfl⟩⟩
/-- the walk,over any arguments of the parameters' types -/
theorem walk :∀ qs N,Rh Tryz.prog [5] qs N→N≤1048576→AC Tryz.prog 4 qs [] fun out _=>out=.ret (.bool true):=by
 intro qs N h hN
 obtain ⟨q0,qs0,A0,B0,rfl,e0,t0,g0⟩:=h
 have u0:=t0.aan (by rw [Tryz.underlying5]; simp) (by rw [Tryz.underlying5]; simp)
 obtain ⟨x0,hx0,m0⟩:=aam u0
 simp only [List.cons.injEq,and_true] at hx0
 subst hx0
 obtain ⟨rfl,e1⟩:=g0
 exact HV _ (JM x0 (by omega)) rfl
theorem aaD {W:World} (hL:laidMet Tryz.prog [("math/bits.deBruijn32tab",Rows.laid_math_bits_deBruijn32tab),("math/bits.deBruijn64tab",Rows.laid_math_bits_deBruijn64tab),("internal/strconv.uint64pow10",Rows.laid_internal_strconv_uint64pow10),("unicode/utf8.acceptRanges",Rows.laid_unicode_utf8_acceptRanges),("strconv.ErrRange",Rows.laid_strconv_ErrRange),("strconv.ErrSyntax",Rows.laid_strconv_ErrSyntax),("unicode/utf8.first",Rows.laid_unicode_utf8_first)] W) (hS:W.ShapedOpen Tryz.prog):iq.G W (vV W):=by
 refine ⟨fun g hg=>?_,fun g hg=>?_,fun p hp=>?_⟩
 ·
  obtain rfl:=List.mem_singleton.1 hg
  obtain ⟨n,hn⟩:=Go.Proofs.cell_of_shapedOpen_int (g:=0) (zero:=#[.int .i64 0]) (t:=3) hS (of_decide_eq_true (by kernel_rfl)) (by kernel_rfl) rfl (by kernel_rfl) (by kernel_rfl) Tryz.underlying3
  exact ⟨NY hn,n,hn⟩
 ·
  simp only [List.mem_cons,List.not_mem_nil,or_false] at hg
  rcases hg with rfl | rfl
  ·
   obtain ⟨u,v,e⟩:=NC (g:=6) (t:=169) hL.tail.tail.tail.tail.tail (by kernel_rfl) (by kernel_rfl) (show Tryz.prog.underlying 169=some (.interface (Tryz.prog.methodsAt 169)) by kernel_rfl)
   exact ⟨NY e,u,v,e⟩
  ·
   obtain ⟨u,v,e⟩:=NC (g:=7) (t:=169) hL.tail.tail.tail.tail (by kernel_rfl) (by kernel_rfl) (show Tryz.prog.underlying 169=some (.interface (Tryz.prog.methodsAt 169)) by kernel_rfl)
   exact ⟨NY e,u,v,e⟩
 ·
  obtain rfl:=List.mem_singleton.1 hp
  exact UH (by kernel_rfl) (Lib.tabIs_of_head (g:=1) (t:=275) (e:=252) (n:=20) (by kernel_rfl) (by kernel_rfl) (by kernel_rfl) (by kernel_rfl) (by kernel_rfl) (by kernel_rfl) (show laidMet Tryz.prog (("internal/strconv.uint64pow10",Lib.tabData .u64 Lib.pow10Tab) :: _) W from hL.tail.tail))
theorem WR (os:Os):laidMet Tryz.prog Rows.templateNestsUptoRow.laid ((World.laidAll Tryz.prog os Rows.templateNestsUptoRow.laid).forCall (fun _ _=>0) ⟨#[],#[.int .u8 0],[]⟩).memory:=
 laidMet_laidAll _ (by kernel_rfl) (by kernel_rfl)
theorem reads (os:Os) {H:Type} (enc:TypeId × Value→H):∃ places,DataW.whole enc Tryz.prog ((World.laidAll Tryz.prog os Rows.templateNestsUptoRow.laid).forCall (fun _ _=>0) ⟨#[],#[.int .u8 0],[]⟩).memory Tryz.f4.params.toList Rows.templateNestsSpec.vars false (#[.int .u8 0]:Array Value).toList 8=some ([.lit (.int .u8 0)],[],places):=
 ⟨[],by kernel_rfl⟩
set_option maxRecDepth 100000 in
theorem lifted (os:Os) (started:os.Started) (H:Type) (enc:TypeId × Value→H) (F:Stop.Interp):
  ReturnsInHanded {} Tryz.checked os 4 .any ((Rows.OpenSpec.upto Rows.templateNestsSpec).preRow enc Tryz.prog Tryz.f4 Rows.templateNestsUptoRow.domain false Rows.templateNestsUptoRow.laid) (((Rows.OpenSpec.upto Rows.templateNestsSpec).at F).post enc Tryz.prog Tryz.f4 false true false false):=by
 obtain ⟨places,hx⟩:=reads os enc
 refine returnsInHanded_of_row (C:=Tryz.checked) (s:=Rows.OpenSpec.upto Rows.templateNestsSpec) own started (by kernel_rfl) Tryz.func4
  (witness_row_atRef (enc:=enc) (C:=Tryz.checked) false (World.laidAll Tryz.prog os Rows.templateNestsUptoRow.laid) #[.int .u8 0] (World.laidAll_os _ _ _) (by kernel_rfl) (by kernel_rfl) (by kernel_rfl)
   (OpenSpec.preRow_of_cond 8 hx (by kernel_rfl) (fun k hk=>by cases hk; kernel_rfl) (by kernel_rfl) (by rw [MakeChecks.laidMetH_plain _ _ _ (by kernel_rfl)]; exact WR os))) ?_
 intro W base args ds gs before hval hW _ hcond _ hlaid hshape _
 rw [MakeChecks.laidMetH_plain _ _ _ (by kernel_rfl)] at hlaid
 have hk:=hcond _ rfl
 have hk2:ng (ds ++ gs)≤1048576:=by
  have:=of_decide_eq_true hk
  rw [Gs] at this
  exact this
 have hgs:gs=[]:=by
  obtain ⟨p,q,hA,hV,rfl,hfz,hnd⟩:=hW
  cases gs with
  | nil=>rfl
  | cons g gs=>exact hV.elim
 subst hgs
 rw [List.append_nil] at hk2
 refine U2 (P:=Tryz.prog) (S:=[5]) (tb:=4) (by kernel_rfl) (by rw [Tryz.params4]; decide) (by rw [Tryz.params4]; exact of_decide_eq_true (by kernel_rfl)) laidOut (by kernel_rfl) Tryz.underlying4 rfl ?_ (fun qs N h hN=>by rw [Tryz.params4] at h; exact walk qs N h (by omega)) hval hW (aaD hlaid hshape)
 rw [Tryz.params4]
 intro ds hd
 match ds,hd with
 | [d0],_=>rfl
end templateNests
end Go.Proofs.YtcohpegjnpcgcaaGreatDoor
