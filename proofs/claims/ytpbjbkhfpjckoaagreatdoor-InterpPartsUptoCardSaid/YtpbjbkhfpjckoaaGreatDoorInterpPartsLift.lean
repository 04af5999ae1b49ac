/- Proved here: the walk of InterpParts, at the arguments of the row. -/
import Derived.Test.YtpbjbkhfpjckoaaGreatDoorIpWalk2
import Derived.Test.YtpbjbkhfpjckoaaGreatDoorIpPlain2
import Derived.Test.YtpbjbkhfpjckoaaGreatDoorRows
import Derived.Test.YtpbjbkhfpjckoaaGreatDoorCards
import Derived.Test.YtpbjbkhfpjckoaaGreatDoorTie
import Derived.WalkKit
import Derived.ProofKit
import Derived.OpenShut
import Derived.JoinedCond
import Derived.Deep.DeepHandedRow
import Derived.Deep.DeepWitnessRowRef
import Derived.Lay
import Derived.SevenTiedAt
import Derived.MakeChecks
set_option linter.unusedVariables false
set_option linter.unusedSimpArgs false
set_option linter.unusedSectionVars false
namespace Go.Proofs.YtpbjbkhfpjckoaaGreatDoor
open Go Go.Abs Go.Ft
section
variable [iG]
theorem acz {c:List PV} {N:Nat} (h:Ri Tryz.prog 9 c N):∃ x:Str,c=[.str x]∧(x.length + 1)≤N:=by
 obtain ⟨s,rfl,rfl⟩:=h.Z7 Tryz.underlying9
 exact ⟨s,rfl,Nat.le_refl _⟩
end
namespace interpParts
open Go.ChangeShapes Go.WideShapes Go.ChangeAt Go.RowKit
theorem own :ownKnob Tryz.prog.godebug=none:=by kernel_rfl
theorem laidOut :laidOutB Tryz.prog=true:=by kernel_rfl
mutual
theorem xY {H:Type}:∀ d:DataW H,Rows.uptoBulk d=oL d
 | .lit (.string _)=>by simp only [Rows.uptoBulk,oL]
 | .lit (.bool _)=>by simp only [Rows.uptoBulk,oL]
 | .lit (.int _ _)=>by simp only [Rows.uptoBulk,oL]
 | .lit (.float _ _)=>by simp only [Rows.uptoBulk,oL]
 | .lit .nil=>by simp only [Rows.uptoBulk,oL]
 | .nil=>by simp only [Rows.uptoBulk,oL]
 | .ptr d=>by simp only [Rows.uptoBulk,oL,xY d]
 | .slice a b=>by simp only [Rows.uptoBulk,oL,Fg a,Fg b]
 | .agg a=>by simp only [Rows.uptoBulk,oL,Fg a]
 | .iface _ d=>by simp only [Rows.uptoBulk,oL,xY d]
 | .map a=>by simp only [Rows.uptoBulk,oL,PL a]
 | .held _=>by simp only [Rows.uptoBulk,oL]
theorem Fg {H:Type}:∀ l:List (DataW H),Rows.uptoBulkAll l=mM l
 | []=>by simp only [Rows.uptoBulkAll,mM]
 | d :: r=>by simp only [Rows.uptoBulkAll,mM,xY d,Fg r]
theorem PL {H:Type}:∀ l:List (Lit × DataW H),Rows.uptoBulkEntries l=wL l
 | []=>by simp only [Rows.uptoBulkEntries,wL]
 | x :: r=>by simp only [Rows.uptoBulkEntries,wL,Zh x,PL r]
theorem Zh {H:Type}:∀ x:Lit × DataW H,Rows.uptoBulkEntry x=uW x
 | (.string _,d)=>by simp only [Rows.uptoBulkEntry,uW,xY d]
 | (.bool _,d)=>by simp only [Rows.uptoBulkEntry,uW,xY d]
 | (.int _ _,d)=>by simp only [Rows.uptoBulkEntry,uW,xY d]
 | (.float _ _,d)=>by simp only [Rows.uptoBulkEntry,uW,xY d]
 | (.nil,d)=>by simp only [Rows.uptoBulkEntry,uW,xY d]
end
instance afX :iG:=aep [0] [6,7] [(3,Lib.pow10Tab.map fun z=>Value.int .u64 z)]
instance evI :DU where
 hD:=id
 max:=fun w m h=>(h.1 0 (by simp)).2
 pow:=fun w m h=>Xo (g:=3) (by kernel_rfl) (by decide) fun off=>(h.2.2 (3,Lib.pow10Tab.map fun z=>Value.int .u64 z) (by simp) off).2
 syn:=fun w m h=>by
  obtain ⟨_,u,v,e⟩:=h.2.1 6 (by simp)
  exact ⟨_,e,.inr ⟨_,_,rfl⟩⟩
 rng:=fun w m h=>by
  obtain ⟨_,u,v,e⟩:=h.2.1 7 (by simp)
  exact ⟨_,e,.inr ⟨_,_,rfl⟩⟩
/-- the walk,over any arguments of the parameters' types -/
theorem walk :∀ qs N,Rj Tryz.prog [9] qs N→N≤1048576→AC Tryz.prog 3 qs [] fun out _=>out=.ret (.bool true):=by
 intro qs N h hN
 obtain ⟨q0,qs0,A0,B0,rfl,e0,t0,g0⟩:=h
 have u0:=t0.acA (by rw [Tryz.underlying9]; simp) (by rw [Tryz.underlying9]; simp)
 obtain ⟨x0,hx0,m0⟩:=acz u0
 simp only [List.cons.injEq,and_true] at hx0
 subst hx0
 obtain ⟨rfl,e1⟩:=g0
 exact Ip _ (Ky x0 (by omega)) rfl
theorem acL {W:World} (hL:laidMet Tryz.prog [("math/bits.deBruijn32tab",Rows.laid_math_bits_deBruijn32tab),("math/bits.deBruijn64tab",Rows.laid_math_bits_deBruijn64tab),("internal/strconv.uint64pow10",Rows.laid_internal_strconv_uint64pow10),("unicode/utf8.acceptRanges",Rows.laid_unicode_utf8_acceptRanges),("strconv.ErrRange",Rows.laid_strconv_ErrRange),("strconv.ErrSyntax",Rows.laid_strconv_ErrSyntax),("unicode/utf8.first",Rows.laid_unicode_utf8_first)] W) (hS:W.ShapedOpen Tryz.prog):iG.G W (uY W):=by
 refine ⟨fun g hg=>?_,fun g hg=>?_,fun p hp=>?_⟩
 ·
  obtain rfl:=List.mem_singleton.1 hg
  obtain ⟨n,hn⟩:=Go.Proofs.cell_of_shapedOpen_int (g:=0) (zero:=#[.int .i64 0]) (t:=3) hS (of_decide_eq_true (by kernel_rfl)) (by kernel_rfl) rfl (by kernel_rfl) (by kernel_rfl) Tryz.underlying3
  exact ⟨M7 hn,n,hn⟩
 ·
  simp only [List.mem_cons,List.not_mem_nil,or_false] at hg
  rcases hg with rfl | rfl
  ·
   obtain ⟨u,v,e⟩:=Mv (g:=6) (t:=77) hL.tail.tail.tail.tail.tail (by kernel_rfl) (by kernel_rfl) (show Tryz.prog.underlying 77=some (.interface (Tryz.prog.methodsAt 77)) by kernel_rfl)
   exact ⟨M7 e,u,v,e⟩
  ·
   obtain ⟨u,v,e⟩:=Mv (g:=7) (t:=77) hL.tail.tail.tail.tail (by kernel_rfl) (by kernel_rfl) (show Tryz.prog.underlying 77=some (.interface (Tryz.prog.methodsAt 77)) by kernel_rfl)
   exact ⟨M7 e,u,v,e⟩
 ·
  obtain rfl:=List.mem_singleton.1 hp
  exact V9 (by kernel_rfl) (Lib.tabIs_of_head (g:=3) (t:=334) (e:=271) (n:=20) (by kernel_rfl) (by kernel_rfl) (by kernel_rfl) (by kernel_rfl) (by kernel_rfl) (by kernel_rfl) (show laidMet Tryz.prog (("internal/strconv.uint64pow10",Lib.tabData .u64 Lib.pow10Tab) :: _) W from hL.tail.tail))
theorem YN (os:Os):laidMet Tryz.prog Rows.interpPartsUptoRow.laid ((World.laidAll Tryz.prog os Rows.interpPartsUptoRow.laid).forCall (fun _ _=>0) ⟨#[],#[.string ⟨#[]⟩],[]⟩).memory:=
 laidMet_laidAll _ (by kernel_rfl) (by kernel_rfl)
theorem reads (os:Os) {H:Type} (enc:TypeId × Value→H):∃ places,DataW.whole enc Tryz.prog ((World.laidAll Tryz.prog os Rows.interpPartsUptoRow.laid).forCall (fun _ _=>0) ⟨#[],#[.string ⟨#[]⟩],[]⟩).memory Tryz.f3.params.toList Rows.interpPartsSpec.vars false (#[.string ⟨#[]⟩]:Array Value).toList 8=some ([.lit (.string [])],[],places):=
 ⟨[],by kernel_rfl⟩
set_option maxRecDepth 100000 in
theorem lifted (os:Os) (started:os.Started) (H:Type) (enc:TypeId × Value→H) (F:Stop.Interp):
  ReturnsInHanded {} Tryz.checked os 3 .any ((Rows.OpenSpec.upto Rows.interpPartsSpec).preRow enc Tryz.prog Tryz.f3 Rows.interpPartsUptoRow.domain false Rows.interpPartsUptoRow.laid) (((Rows.OpenSpec.upto Rows.interpPartsSpec).at F).post enc Tryz.prog Tryz.f3 false true false false):=by
 obtain ⟨places,hx⟩:=reads os enc
 refine returnsInHanded_of_row (C:=Tryz.checked) (s:=Rows.OpenSpec.upto Rows.interpPartsSpec) own started (by kernel_rfl) Tryz.func3
  (witness_row_atRef (enc:=enc) (C:=Tryz.checked) false (World.laidAll Tryz.prog os Rows.interpPartsUptoRow.laid) #[.string ⟨#[]⟩] (World.laidAll_os _ _ _) (by kernel_rfl) (by kernel_rfl) (by kernel_rfl)
   (OpenSpec.preRow_of_cond 8 hx (by kernel_rfl) (fun k hk=>by cases hk; kernel_rfl) (by kernel_rfl) (by rw [MakeChecks.laidMetH_plain _ _ _ (by kernel_rfl)]; exact YN os))) ?_
 intro W base args ds gs before hval hW _ hcond _ hlaid hshape _
 rw [MakeChecks.laidMetH_plain _ _ _ (by kernel_rfl)] at hlaid
 have hk:=hcond _ rfl
 have hk2:mM (ds ++ gs)≤1048576:=by
  have:=of_decide_eq_true hk
  rw [Fg] at this
  exact this
 have hgs:gs=[]:=by
  obtain ⟨p,q,hA,hV,rfl,hfz,hnd⟩:=hW
  cases gs with
  | nil=>rfl
  | cons g gs=>exact hV.elim
 subst hgs
 rw [List.append_nil] at hk2
 refine WS (P:=Tryz.prog) (S:=[9]) (tb:=4) (by kernel_rfl) (by rw [Tryz.params3]; decide) (by rw [Tryz.params3]; exact of_decide_eq_true (by kernel_rfl)) laidOut (by kernel_rfl) Tryz.underlying4 rfl ?_ (fun qs N h hN=>by rw [Tryz.params3] at h; exact walk qs N h (by omega)) hval hW (acL hlaid hshape)
 rw [Tryz.params3]
 intro ds hd
 match ds,hd with
 | [d0],_=>rfl
end interpParts
end Go.Proofs.YtpbjbkhfpjckoaaGreatDoor
