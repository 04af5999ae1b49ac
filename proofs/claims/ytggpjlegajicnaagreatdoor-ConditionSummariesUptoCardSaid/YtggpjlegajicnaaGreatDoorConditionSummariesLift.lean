/- Proved here: the walk of ConditionSummaries, at the arguments of the row. -/
import Derived.Test.YtggpjlegajicnaaGreatDoorCoWalk3
import Derived.Test.YtggpjlegajicnaaGreatDoorCoWalk15
import Derived.Test.YtggpjlegajicnaaGreatDoorCoPlain1
import Derived.Test.YtggpjlegajicnaaGreatDoorCoPlain3
import Derived.Test.YtggpjlegajicnaaGreatDoorCoPlain4
import Derived.Test.YtggpjlegajicnaaGreatDoorCoPlain16
import Derived.Test.YtggpjlegajicnaaGreatDoorRows
import Derived.Test.YtggpjlegajicnaaGreatDoorCards
import Derived.Test.YtggpjlegajicnaaGreatDoorTie
import Derived.WalkKit
import Derived.ProofKit
import Derived.OpenShut
import Derived.JoinedCond
import Derived.Deep.DeepHandedRow
import Derived.Deep.DeepWitnessRowRef
import Derived.Lay
import Derived.SevenTiedAt
import Derived.MakeChecks
set_option linter.unusedVariables false
set_option linter.unusedSimpArgs false
set_option linter.unusedSectionVars false
namespace Go.Proofs.YtggpjlegajicnaaGreatDoor
open Go Go.Abs Go.Ft
section
variable [gX]
theorem qj {c:List PV} {N:Nat} (h:kW Tryz.prog 3 c N):∃ x:Int,c=[.int .i64 x]∧1≤N:=by
 obtain ⟨n,rfl,hw,rfl⟩:=h.aaP Tryz.underlying3
 exact ⟨n,rfl,Nat.le_refl _⟩
theorem Fv {c:List PV} {N:Nat} (h:kW Tryz.prog 22 c N):∃ x:List Int,c=[.list (List.map vT x)]∧((List.map (fun z:Int=>1) x).sum + 1)≤N:=by
 obtain ⟨l,rfl,rfl,hl⟩:=h.oh Tryz.underlying22
 obtain ⟨xs,h1,h2⟩:=jV (f:=vT) (μ:=fun z:Int=>1) fun x hx=>qj (hl x hx)
 exact ⟨xs,by rw [h1],by omega⟩
end

namespace conditionSummaries
open Go.ChangeShapes Go.WideShapes Go.ChangeAt Go.RowKit

theorem own :ownKnob Tryz.prog.godebug=none:=by kernel_rfl
theorem laidOut :laidOutB Tryz.prog=true:=by kernel_rfl

mutual
theorem eP {H:Type}:∀ d:DataW H,Rows.uptoBulk d=fJ d
 | .lit (.string _)=>by simp only [Rows.uptoBulk,fJ]
 | .lit (.bool _)=>by simp only [Rows.uptoBulk,fJ]
 | .lit (.int _ _)=>by simp only [Rows.uptoBulk,fJ]
 | .lit (.float _ _)=>by simp only [Rows.uptoBulk,fJ]
 | .lit .nil=>by simp only [Rows.uptoBulk,fJ]
 | .nil=>by simp only [Rows.uptoBulk,fJ]
 | .ptr d=>by simp only [Rows.uptoBulk,fJ,eP d]
 | .slice a b=>by simp only [Rows.uptoBulk,fJ,h_ a,h_ b]
 | .agg a=>by simp only [Rows.uptoBulk,fJ,h_ a]
 | .iface _ d=>by simp only [Rows.uptoBulk,fJ,eP d]
 | .map a=>by simp only [Rows.uptoBulk,fJ,ng a]
 | .held _=>by simp only [Rows.uptoBulk,fJ]
theorem h_ {H:Type}:∀ l:List (DataW H),Rows.uptoBulkAll l=gZ l
 | []=>by simp only [Rows.uptoBulkAll,gZ]
 | d :: r=>by simp only [Rows.uptoBulkAll,gZ,eP d,h_ r]
theorem ng {H:Type}:∀ l:List (Lit × DataW H),Rows.uptoBulkEntries l=iB l
 | []=>by simp only [Rows.uptoBulkEntries,iB]
 | x :: r=>by simp only [Rows.uptoBulkEntries,iB,yj x,ng r]
theorem yj {H:Type}:∀ x:Lit × DataW H,Rows.uptoBulkEntry x=fC x
 | (.string _,d)=>by simp only [Rows.uptoBulkEntry,fC,eP d]
 | (.bool _,d)=>by simp only [Rows.uptoBulkEntry,fC,eP d]
 | (.int _ _,d)=>by simp only [Rows.uptoBulkEntry,fC,eP d]
 | (.float _ _,d)=>by simp only [Rows.uptoBulkEntry,fC,eP d]
 | (.nil,d)=>by simp only [Rows.uptoBulkEntry,fC,eP d]
end

instance ac6 :gX:=Zr [2] [0,1] [(3,Lib.pow10Tab.map fun z=>Value.int .u64 z)]
instance evI :FR where
 hD:=id
 max:=fun w m h=>(h.1 2 (by simp)).2
 pow:=fun w m h=>Gf (g:=3) (by kernel_rfl) (by decide) fun off=>(h.2.2 (3,Lib.pow10Tab.map fun z=>Value.int .u64 z) (by simp) off).2
 syn:=fun w m h=>by
  obtain ⟨_,u,v,e⟩:=h.2.1 0 (by simp)
  exact ⟨_,e,.inr ⟨_,_,rfl⟩⟩
 rng:=fun w m h=>by
  obtain ⟨_,u,v,e⟩:=h.2.1 1 (by simp)
  exact ⟨_,e,.inr ⟨_,_,rfl⟩⟩
/-- the walk,over any arguments of the parameters' types -/
theorem walk :∀ qs N,La Tryz.prog [22] qs N→N≤1048576→AC Tryz.prog 7 qs [] fun out _=>out=.ret (.bool true):=by
 intro qs N h hN
 obtain ⟨q0,qs0,A0,B0,rfl,e0,t0,g0⟩:=h
 have u0:=t0.Pp (by rw [Tryz.underlying22]; simp) (by rw [Tryz.underlying22]; simp)
 obtain ⟨x0,hx0,m0⟩:=Fv u0
 simp only [List.cons.injEq,and_true] at hx0
 subst hx0
 obtain ⟨rfl,e1⟩:=g0
 exact Jq _ (KP x0 (by omega)) rfl

theorem G7 {W:World} (hL:laidMet Tryz.prog [("math/bits.deBruijn32tab",Rows.laid_math_bits_deBruijn32tab),("math/bits.deBruijn64tab",Rows.laid_math_bits_deBruijn64tab),("internal/strconv.uint64pow10",Rows.laid_internal_strconv_uint64pow10),("unicode/utf8.acceptRanges",Rows.laid_unicode_utf8_acceptRanges),("strconv.ErrRange",Rows.laid_strconv_ErrRange),("strconv.ErrSyntax",Rows.laid_strconv_ErrSyntax),("unicode/utf8.first",Rows.laid_unicode_utf8_first)] W) (hS:W.ShapedOpen Tryz.prog):gX.G W (uV W):=by
 refine ⟨fun g hg=>?_,fun g hg=>?_,fun p hp=>?_⟩
 ·
  obtain rfl:=List.mem_singleton.1 hg
  obtain ⟨n,hn⟩:=Go.Proofs.cell_of_shapedOpen_int (g:=2) (zero:=#[.int .i64 0]) (t:=3) hS (of_decide_eq_true (by kernel_rfl)) (by kernel_rfl) rfl (by kernel_rfl) (by kernel_rfl) Tryz.underlying3
  exact ⟨oF hn,n,hn⟩
 ·
  simp only [List.mem_cons,List.not_mem_nil,or_false] at hg
  rcases hg with rfl | rfl
  ·
   obtain ⟨u,v,e⟩:=ql (g:=0) (t:=177) hL.tail.tail.tail.tail.tail (by kernel_rfl) (by kernel_rfl) (show Tryz.prog.underlying 177=some (.interface (Tryz.prog.methodsAt 177)) by kernel_rfl)
   exact ⟨oF e,u,v,e⟩
  ·
   obtain ⟨u,v,e⟩:=ql (g:=1) (t:=177) hL.tail.tail.tail.tail (by kernel_rfl) (by kernel_rfl) (show Tryz.prog.underlying 177=some (.interface (Tryz.prog.methodsAt 177)) by kernel_rfl)
   exact ⟨oF e,u,v,e⟩
 ·
  obtain rfl:=List.mem_singleton.1 hp
  exact FV (by kernel_rfl) (Lib.tabIs_of_head (g:=3) (t:=318) (e:=237) (n:=20) (by kernel_rfl) (by kernel_rfl) (by kernel_rfl) (by kernel_rfl) (by kernel_rfl) (by kernel_rfl) (show laidMet Tryz.prog (("internal/strconv.uint64pow10",Lib.tabData .u64 Lib.pow10Tab) :: _) W from hL.tail.tail))
theorem xJ (os:Os):laidMet Tryz.prog Rows.conditionSummariesUptoRow.laid ((World.laidAll Tryz.prog os Rows.conditionSummariesUptoRow.laid).forCall (fun _ _=>0) ⟨#[],#[.slice none 0 0],[]⟩).memory:=
 laidMet_laidAll _ (by kernel_rfl) (by kernel_rfl)
theorem reads (os:Os) {H:Type} (enc:TypeId × Value→H):∃ places,DataW.whole enc Tryz.prog ((World.laidAll Tryz.prog os Rows.conditionSummariesUptoRow.laid).forCall (fun _ _=>0) ⟨#[],#[.slice none 0 0],[]⟩).memory Tryz.f7.params.toList Rows.conditionSummariesSpec.vars false (#[.slice none 0 0]:Array Value).toList 8=some ([.nil],[],places):=
 ⟨[],by kernel_rfl⟩

set_option maxRecDepth 100000 in
theorem lifted (os:Os) (started:os.Started) (H:Type) (enc:TypeId × Value→H) (F:Stop.Interp):
  ReturnsInHanded {} Tryz.checked os 7 .any ((Rows.OpenSpec.upto Rows.conditionSummariesSpec).preRow enc Tryz.prog Tryz.f7 Rows.conditionSummariesUptoRow.domain false Rows.conditionSummariesUptoRow.laid) (((Rows.OpenSpec.upto Rows.conditionSummariesSpec).at F).post enc Tryz.prog Tryz.f7 false true false false):=by
 obtain ⟨places,hx⟩:=reads os enc
 refine returnsInHanded_of_row (C:=Tryz.checked) (s:=Rows.OpenSpec.upto Rows.conditionSummariesSpec) own started (by kernel_rfl) Tryz.func7
  (witness_row_atRef (enc:=enc) (C:=Tryz.checked) false (World.laidAll Tryz.prog os Rows.conditionSummariesUptoRow.laid) #[.slice none 0 0] (World.laidAll_os _ _ _) (by kernel_rfl) (by kernel_rfl) (by kernel_rfl)
   (OpenSpec.preRow_of_cond 8 hx (by kernel_rfl) (fun k hk=>by cases hk; kernel_rfl) (by kernel_rfl) (by rw [MakeChecks.laidMetH_plain _ _ _ (by kernel_rfl)]; exact xJ os))) ?_
 intro W base args ds gs before hval hW _ hcond _ hlaid hshape _
 rw [MakeChecks.laidMetH_plain _ _ _ (by kernel_rfl)] at hlaid
 have hk:=hcond _ rfl
 have hk2:gZ (ds ++ gs)≤1048576:=by
  have:=of_decide_eq_true hk
  rw [h_] at this
  exact this
 have hgs:gs=[]:=by
  obtain ⟨p,q,hA,hV,rfl,hfz,hnd⟩:=hW
  cases gs with
  | nil=>rfl
  | cons g gs=>exact hV.elim
 subst hgs
 rw [List.append_nil] at hk2
 refine Gb (P:=Tryz.prog) (S:=[3,22]) (tb:=4) (by kernel_rfl) (by rw [Tryz.params7]; decide) (by rw [Tryz.params7]; exact of_decide_eq_true (by kernel_rfl)) laidOut (by kernel_rfl) Tryz.underlying4 rfl ?_ (fun qs N h hN=>by rw [Tryz.params7] at h; exact walk qs N h (by omega)) hval hW (G7 hlaid hshape)
 rw [Tryz.params7]
 intro ds hd
 match ds,hd with
 | [d0],_=>rfl

end conditionSummaries
end Go.Proofs.YtggpjlegajicnaaGreatDoor
