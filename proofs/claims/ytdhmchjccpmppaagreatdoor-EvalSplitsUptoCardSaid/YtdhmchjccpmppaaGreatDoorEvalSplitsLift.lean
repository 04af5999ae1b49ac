/- Proved here: the walk of EvalSplits, at the arguments of the row. -/
import Derived.Test.YtdhmchjccpmppaaGreatDoorEvWalk3
import Derived.Test.YtdhmchjccpmppaaGreatDoorEvPlain2
import Derived.Test.YtdhmchjccpmppaaGreatDoorEvEval16
import Derived.Test.YtdhmchjccpmppaaGreatDoorEvEval18
import Derived.Test.YtdhmchjccpmppaaGreatDoorEvEval20
import Derived.Test.YtdhmchjccpmppaaGreatDoorEvEval21
import Derived.Test.YtdhmchjccpmppaaGreatDoorRows
import Derived.Test.YtdhmchjccpmppaaGreatDoorCards
import Derived.Test.YtdhmchjccpmppaaGreatDoorTie
import Derived.WalkKit
import Derived.ProofKit
import Derived.OpenShut
import Derived.JoinedCond
import Derived.Deep.DeepHandedRow
import Derived.Deep.DeepWitnessRowRef
import Derived.Lay
import Derived.SevenTiedAt
import Derived.MakeChecks
set_option linter.unusedVariables false
set_option linter.unusedSimpArgs false
set_option linter.unusedSectionVars false
namespace Go.Proofs.YtdhmchjccpmppaaGreatDoor
open Go Go.Abs Go.Ft
section
variable [iw]
theorem l9 {c:List PV} {N:Nat} (h:jM Tryz.prog 9 c N):∃ x:Str,c=[.str x]∧(x.length + 1)≤N:=by
 obtain ⟨s,rfl,rfl⟩:=h.VA Tryz.underlying9
 exact ⟨s,rfl,Nat.le_refl _⟩
end

namespace evalSplits
open Go.ChangeShapes Go.WideShapes Go.ChangeAt Go.RowKit

theorem own :ownKnob Tryz.prog.godebug=none:=by kernel_rfl
theorem laidOut :laidOutB Tryz.prog=true:=by kernel_rfl

mutual
theorem cZ {H:Type}:∀ d:DataW H,Rows.uptoBulk d=dS d
 | .lit (.string _)=>by simp only [Rows.uptoBulk,dS]
 | .lit (.bool _)=>by simp only [Rows.uptoBulk,dS]
 | .lit (.int _ _)=>by simp only [Rows.uptoBulk,dS]
 | .lit (.float _ _)=>by simp only [Rows.uptoBulk,dS]
 | .lit .nil=>by simp only [Rows.uptoBulk,dS]
 | .nil=>by simp only [Rows.uptoBulk,dS]
 | .ptr d=>by simp only [Rows.uptoBulk,dS,cZ d]
 | .slice a b=>by simp only [Rows.uptoBulk,dS,fO a,fO b]
 | .agg a=>by simp only [Rows.uptoBulk,dS,fO a]
 | .iface _ d=>by simp only [Rows.uptoBulk,dS,cZ d]
 | .map a=>by simp only [Rows.uptoBulk,dS,jL a]
 | .held _=>by simp only [Rows.uptoBulk,dS]
theorem fO {H:Type}:∀ l:List (DataW H),Rows.uptoBulkAll l=fP l
 | []=>by simp only [Rows.uptoBulkAll,fP]
 | d :: r=>by simp only [Rows.uptoBulkAll,fP,cZ d,fO r]
theorem jL {H:Type}:∀ l:List (Lit × DataW H),Rows.uptoBulkEntries l=fU l
 | []=>by simp only [Rows.uptoBulkEntries,fU]
 | x :: r=>by simp only [Rows.uptoBulkEntries,fU,qZ x,jL r]
theorem qZ {H:Type}:∀ x:Lit × DataW H,Rows.uptoBulkEntry x=dG x
 | (.string _,d)=>by simp only [Rows.uptoBulkEntry,dG,cZ d]
 | (.bool _,d)=>by simp only [Rows.uptoBulkEntry,dG,cZ d]
 | (.int _ _,d)=>by simp only [Rows.uptoBulkEntry,dG,cZ d]
 | (.float _ _,d)=>by simp only [Rows.uptoBulkEntry,dG,cZ d]
 | (.nil,d)=>by simp only [Rows.uptoBulkEntry,dG,cZ d]
end

instance UJ :iw:=Rb [1] [2,3] [(0,Lib.pow10Tab.map fun z=>Value.int .u64 z)]
instance evI :Ay where
 hD:=id
 max:=fun w m h=>(h.1 1 (by simp)).2
 pow:=fun w m h=>Aq (g:=0) (by kernel_rfl) (by decide) fun off=>(h.2.2 (0,Lib.pow10Tab.map fun z=>Value.int .u64 z) (by simp) off).2
 syn:=fun w m h=>by
  obtain ⟨_,u,v,e⟩:=h.2.1 2 (by simp)
  exact ⟨_,e,.inr ⟨_,_,rfl⟩⟩
 rng:=fun w m h=>by
  obtain ⟨_,u,v,e⟩:=h.2.1 3 (by simp)
  exact ⟨_,e,.inr ⟨_,_,rfl⟩⟩
/-- the walk,over any arguments of the parameters' types -/
theorem walk :∀ qs N,Fx Tryz.prog [9,9] qs N→N≤1048576→AC Tryz.prog 9 qs [] fun out _=>out=.ret (.bool true):=by
 intro qs N h hN
 obtain ⟨q0,qs0,A0,B0,rfl,e0,t0,g0⟩:=h
 have u0:=t0.KX (by rw [Tryz.underlying9]; simp) (by rw [Tryz.underlying9]; simp)
 obtain ⟨x0,hx0,m0⟩:=l9 u0
 simp only [List.cons.injEq,and_true] at hx0
 subst hx0
 obtain ⟨q1,qs1,A1,B1,rfl,e1,t1,g1⟩:=g0
 have u1:=t1.KX (by rw [Tryz.underlying9]; simp) (by rw [Tryz.underlying9]; simp)
 obtain ⟨x1,hx1,m1⟩:=l9 u1
 simp only [List.cons.injEq,and_true] at hx1
 subst hx1
 obtain ⟨rfl,e2⟩:=g1
 exact NY _ _ (QZ x0 x1 (by omega)) rfl

theorem Ae {W:World} (hL:laidMet Tryz.prog [("math/bits.deBruijn32tab",Rows.laid_math_bits_deBruijn32tab),("math/bits.deBruijn64tab",Rows.laid_math_bits_deBruijn64tab),("internal/strconv.uint64pow10",Rows.laid_internal_strconv_uint64pow10),("unicode/utf8.acceptRanges",Rows.laid_unicode_utf8_acceptRanges),("strconv.ErrRange",Rows.laid_strconv_ErrRange),("strconv.ErrSyntax",Rows.laid_strconv_ErrSyntax),("unicode/utf8.first",Rows.laid_unicode_utf8_first)] W) (hS:W.ShapedOpen Tryz.prog):iw.G W (qA W):=by
 refine ⟨fun g hg=>?_,fun g hg=>?_,fun p hp=>?_⟩
 ·
  obtain rfl:=List.mem_singleton.1 hg
  obtain ⟨n,hn⟩:=Go.Proofs.cell_of_shapedOpen_int (g:=1) (zero:=#[.int .i64 0]) (t:=3) hS (of_decide_eq_true (by kernel_rfl)) (by kernel_rfl) rfl (by kernel_rfl) (by kernel_rfl) Tryz.underlying3
  exact ⟨kM hn,n,hn⟩
 ·
  simp only [List.mem_cons,List.not_mem_nil,or_false] at hg
  rcases hg with rfl | rfl
  ·
   obtain ⟨u,v,e⟩:=lK (g:=2) (t:=199) hL.tail.tail.tail.tail.tail (by kernel_rfl) (by kernel_rfl) (show Tryz.prog.underlying 199=some (.interface (Tryz.prog.methodsAt 199)) by kernel_rfl)
   exact ⟨kM e,u,v,e⟩
  ·
   obtain ⟨u,v,e⟩:=lK (g:=3) (t:=199) hL.tail.tail.tail.tail (by kernel_rfl) (by kernel_rfl) (show Tryz.prog.underlying 199=some (.interface (Tryz.prog.methodsAt 199)) by kernel_rfl)
   exact ⟨kM e,u,v,e⟩
 ·
  obtain rfl:=List.mem_singleton.1 hp
  exact zM (by kernel_rfl) (Lib.tabIs_of_head (g:=0) (t:=287) (e:=238) (n:=20) (by kernel_rfl) (by kernel_rfl) (by kernel_rfl) (by kernel_rfl) (by kernel_rfl) (by kernel_rfl) (show laidMet Tryz.prog (("internal/strconv.uint64pow10",Lib.tabData .u64 Lib.pow10Tab) :: _) W from hL.tail.tail))
theorem qR (os:Os):laidMet Tryz.prog Rows.evalSplitsUptoRow.laid ((World.laidAll Tryz.prog os Rows.evalSplitsUptoRow.laid).forCall (fun _ _=>0) ⟨#[],#[.string ⟨#[]⟩,.string ⟨#[]⟩],[]⟩).memory:=
 laidMet_laidAll _ (by kernel_rfl) (by kernel_rfl)
theorem reads (os:Os) {H:Type} (enc:TypeId × Value→H):∃ places,DataW.whole enc Tryz.prog ((World.laidAll Tryz.prog os Rows.evalSplitsUptoRow.laid).forCall (fun _ _=>0) ⟨#[],#[.string ⟨#[]⟩,.string ⟨#[]⟩],[]⟩).memory Tryz.f9.params.toList Rows.evalSplitsSpec.vars false (#[.string ⟨#[]⟩,.string ⟨#[]⟩]:Array Value).toList 8=some ([.lit (.string []),.lit (.string [])],[],places):=
 ⟨[],by kernel_rfl⟩

set_option maxRecDepth 100000 in
theorem lifted (os:Os) (started:os.Started) (H:Type) (enc:TypeId × Value→H) (F:Stop.Interp):
  ReturnsInHanded {} Tryz.checked os 9 .any ((Rows.OpenSpec.upto Rows.evalSplitsSpec).preRow enc Tryz.prog Tryz.f9 Rows.evalSplitsUptoRow.domain false Rows.evalSplitsUptoRow.laid) (((Rows.OpenSpec.upto Rows.evalSplitsSpec).at F).post enc Tryz.prog Tryz.f9 false true false false):=by
 obtain ⟨places,hx⟩:=reads os enc
 refine returnsInHanded_of_row (C:=Tryz.checked) (s:=Rows.OpenSpec.upto Rows.evalSplitsSpec) own started (by kernel_rfl) Tryz.func9
  (witness_row_atRef (enc:=enc) (C:=Tryz.checked) false (World.laidAll Tryz.prog os Rows.evalSplitsUptoRow.laid) #[.string ⟨#[]⟩,.string ⟨#[]⟩] (World.laidAll_os _ _ _) (by kernel_rfl) (by kernel_rfl) (by kernel_rfl)
   (OpenSpec.preRow_of_cond 8 hx (by kernel_rfl) (fun k hk=>by cases hk; kernel_rfl) (by kernel_rfl) (by rw [MakeChecks.laidMetH_plain _ _ _ (by kernel_rfl)]; exact qR os))) ?_
 intro W base args ds gs before hval hW _ hcond _ hlaid hshape _
 rw [MakeChecks.laidMetH_plain _ _ _ (by kernel_rfl)] at hlaid
 have hk:=hcond _ rfl
 have hk2:fP (ds ++ gs)≤1048576:=by
  have:=of_decide_eq_true hk
  rw [fO] at this
  exact this
 have hgs:gs=[]:=by
  obtain ⟨p,q,hA,hV,rfl,hfz,hnd⟩:=hW
  cases gs with
  | nil=>rfl
  | cons g gs=>exact hV.elim
 subst hgs
 rw [List.append_nil] at hk2
 refine Aa (P:=Tryz.prog) (S:=[9]) (tb:=4) (by kernel_rfl) (by rw [Tryz.params9]; decide) (by rw [Tryz.params9]; exact of_decide_eq_true (by kernel_rfl)) laidOut (by kernel_rfl) Tryz.underlying4 rfl ?_ (fun qs N h hN=>by rw [Tryz.params9] at h; exact walk qs N h (by omega)) hval hW (Ae hlaid hshape)
 rw [Tryz.params9]
 intro ds hd
 match ds,hd with
 | [d0,d1],_=>rfl

end evalSplits
end Go.Proofs.YtdhmchjccpmppaaGreatDoor
