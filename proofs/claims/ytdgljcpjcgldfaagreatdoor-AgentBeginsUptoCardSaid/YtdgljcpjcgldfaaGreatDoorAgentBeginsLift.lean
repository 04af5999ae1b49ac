/- Proved here: the walk of AgentBegins, at the arguments of the row. -/
import Derived.Test.YtdgljcpjcgldfaaGreatDoorAbWalk1
import Derived.Test.YtdgljcpjcgldfaaGreatDoorAbPlain1
import Derived.Test.YtdgljcpjcgldfaaGreatDoorRows
import Derived.Test.YtdgljcpjcgldfaaGreatDoorCards
import Derived.Test.YtdgljcpjcgldfaaGreatDoorTie
import Derived.WalkKit
import Derived.ProofKit
import Derived.OpenShut
import Derived.JoinedCond
import Derived.Deep.DeepHandedRow
import Derived.Deep.DeepWitnessRowRef
import Derived.Lay
import Derived.SevenTiedAt
import Derived.MakeChecks
set_option linter.unusedVariables false
set_option linter.unusedSimpArgs false
set_option linter.unusedSectionVars false
namespace Go.Proofs.YtdgljcpjcgldfaaGreatDoor
open Go Go.Abs Go.Ft
section
variable [bX]
theorem FZ {c:List PV} {N:Nat} (h:mG Tryz.prog 9 c N):∃ x:Str,c=[.str x]∧(x.length + 1)≤N∧True:=by
 obtain ⟨s,rfl,rfl⟩:=h.Hu Tryz.underlying9
 exact ⟨s,rfl,Nat.le_refl _,trivial⟩
theorem H6 {c:List PV} {N:Nat} (h:mG Tryz.prog 22 c N):∃ x:List Str,c=[.list (List.map aO x)]∧((List.map (fun z:Str=>(z.length + 1)) x).sum + 1)≤N∧(∀ z∈x,True):=by
 obtain ⟨l,rfl,rfl,hl⟩:=h.vI Tryz.underlying22
 obtain ⟨xs,h1,h2,h3⟩:=sZ (f:=aO) (μ:=fun z:Str=>(z.length + 1)) (p:=fun z:Str=>True) fun x hx=>FZ (hl x hx)
 exact ⟨xs,by rw [h1],by omega,h3⟩
theorem qM {c:List PV} {N:Nat} (h:mG Tryz.prog 3 c N):∃ x:Int,c=[.int .i64 x]∧1≤N∧(-9223372036854775808≤x∧x≤9223372036854775807):=by
 obtain ⟨n,rfl,hw,rfl⟩:=h.Ib Tryz.underlying3
 exact ⟨n,rfl,Nat.le_refl _,wf_i64 hw⟩
theorem JC {c:List PV} {N:Nat} (h:mG Tryz.prog 4 c N):∃ x:Bool,c=[.bool x]∧1≤N∧True:=by
 obtain ⟨b,rfl,rfl⟩:=h.Ei Tryz.underlying4
 exact ⟨b,rfl,Nat.le_refl _,trivial⟩
theorem HZ {c:List PV} {N:Nat} (h:mG Tryz.prog 23 c N):∃ x:List Int,c=[.list (List.map jr x)]∧((List.map (fun z:Int=>1) x).sum + 1)≤N∧(∀ z∈x,(-9223372036854775808≤z∧z≤9223372036854775807)):=by
 obtain ⟨l,rfl,rfl,hl⟩:=h.vI Tryz.underlying23
 obtain ⟨xs,h1,h2,h3⟩:=sZ (f:=jr) (μ:=fun z:Int=>1) (p:=fun z:Int=>(-9223372036854775808≤z∧z≤9223372036854775807)) fun x hx=>qM (hl x hx)
 exact ⟨xs,by rw [h1],by omega,h3⟩
theorem HY {c:List PV} {N:Nat} (h:mG Tryz.prog 25 c N):∃ x:av,c=av.cells x∧(av.bulk x)≤N∧(av.wf x):=by
 obtain ⟨ps,rfl,rfl,hlen,hz⟩:=h.DR Tryz.underlying25
 match ps,hlen with
 | [p0,p1,p2,p3,p4,p5,p6,p7,p8],_=>
  have k0:mG Tryz.prog 9 p0.1 p0.2:=hz _ (List.mem_of_getElem? (i:=0) rfl)
  obtain ⟨x0,c0,b0,w0⟩:=FZ k0
  have k1:mG Tryz.prog 22 p1.1 p1.2:=hz _ (List.mem_of_getElem? (i:=1) rfl)
  obtain ⟨x1,c1,b1,w1⟩:=H6 k1
  have k2:mG Tryz.prog 3 p2.1 p2.2:=hz _ (List.mem_of_getElem? (i:=2) rfl)
  obtain ⟨x2,c2,b2,w2⟩:=qM k2
  have k3:mG Tryz.prog 3 p3.1 p3.2:=hz _ (List.mem_of_getElem? (i:=3) rfl)
  obtain ⟨x3,c3,b3,w3⟩:=qM k3
  have k4:mG Tryz.prog 4 p4.1 p4.2:=hz _ (List.mem_of_getElem? (i:=4) rfl)
  obtain ⟨x4,c4,b4,w4⟩:=JC k4
  have k5:mG Tryz.prog 3 p5.1 p5.2:=hz _ (List.mem_of_getElem? (i:=5) rfl)
  obtain ⟨x5,c5,b5,w5⟩:=qM k5
  have k6:mG Tryz.prog 3 p6.1 p6.2:=hz _ (List.mem_of_getElem? (i:=6) rfl)
  obtain ⟨x6,c6,b6,w6⟩:=qM k6
  have k7:mG Tryz.prog 3 p7.1 p7.2:=hz _ (List.mem_of_getElem? (i:=7) rfl)
  obtain ⟨x7,c7,b7,w7⟩:=qM k7
  have k8:mG Tryz.prog 23 p8.1 p8.2:=hz _ (List.mem_of_getElem? (i:=8) rfl)
  obtain ⟨x8,c8,b8,w8⟩:=HZ k8
  refine ⟨⟨x0,x1,x2,x3,x4,x5,x6,x7,x8⟩,?_,?_,⟨w0,w1,w2,w3,w4,w5,w6,w7,w8⟩⟩
  ·
   simp only [List.map_cons,List.map_nil,List.flatten_cons,List.flatten_nil,c0,c1,c2,c3,c4,c5,c6,c7,c8]
   first | rfl | simp [av.cells]
  ·
   simp only [List.map_cons,List.map_nil,List.sum_cons,List.sum_nil] at *
   first | (simp only [av.bulk]; omega) | (rw [av.Eh]; simp only; omega)
end
namespace agentBegins
open Go.ChangeShapes Go.WideShapes Go.ChangeAt Go.RowKit
theorem own :ownKnob Tryz.prog.godebug=none:=by kernel_rfl
theorem laidOut :laidOutB Tryz.prog=true:=by kernel_rfl
mutual
theorem kF {H:Type}:∀ d:DataW H,Rows.uptoBulk d=fA d
 | .lit (.string _)=>by simp only [Rows.uptoBulk,fA]
 | .lit (.bool _)=>by simp only [Rows.uptoBulk,fA]
 | .lit (.int _ _)=>by simp only [Rows.uptoBulk,fA]
 | .lit (.float _ _)=>by simp only [Rows.uptoBulk,fA]
 | .lit .nil=>by simp only [Rows.uptoBulk,fA]
 | .nil=>by simp only [Rows.uptoBulk,fA]
 | .ptr d=>by simp only [Rows.uptoBulk,fA,kF d]
 | .slice a b=>by simp only [Rows.uptoBulk,fA,pO a,pO b]
 | .agg a=>by simp only [Rows.uptoBulk,fA,pO a]
 | .iface _ d=>by simp only [Rows.uptoBulk,fA,kF d]
 | .map a=>by simp only [Rows.uptoBulk,fA,y9 a]
 | .held _=>by simp only [Rows.uptoBulk,fA]
theorem pO {H:Type}:∀ l:List (DataW H),Rows.uptoBulkAll l=dY l
 | []=>by simp only [Rows.uptoBulkAll,dY]
 | d :: r=>by simp only [Rows.uptoBulkAll,dY,kF d,pO r]
theorem y9 {H:Type}:∀ l:List (Lit × DataW H),Rows.uptoBulkEntries l=jL l
 | []=>by simp only [Rows.uptoBulkEntries,jL]
 | x :: r=>by simp only [Rows.uptoBulkEntries,jL,GX x,y9 r]
theorem GX {H:Type}:∀ x:Lit × DataW H,Rows.uptoBulkEntry x=jd x
 | (.string _,d)=>by simp only [Rows.uptoBulkEntry,jd,kF d]
 | (.bool _,d)=>by simp only [Rows.uptoBulkEntry,jd,kF d]
 | (.int _ _,d)=>by simp only [Rows.uptoBulkEntry,jd,kF d]
 | (.float _ _,d)=>by simp only [Rows.uptoBulkEntry,jd,kF d]
 | (.nil,d)=>by simp only [Rows.uptoBulkEntry,jd,kF d]
end
instance Ny :bX:=Li [0] [6,7] [(3,Lib.pow10Tab.map fun z=>Value.int .u64 z)]
instance Oj :Hf where
 hD:=id
 max:=fun w m h=>(h.1 0 (by simp)).2
 pow:=fun w m h=>EX (g:=3) (by kernel_rfl) (by decide) fun off=>(h.2.2 (3,Lib.pow10Tab.map fun z=>Value.int .u64 z) (by simp) off).2
 syn:=fun w m h=>by
  obtain ⟨_,u,v,e⟩:=h.2.1 6 (by simp)
  exact ⟨_,e,.inr ⟨_,_,rfl⟩⟩
 rng:=fun w m h=>by
  obtain ⟨_,u,v,e⟩:=h.2.1 7 (by simp)
  exact ⟨_,e,.inr ⟨_,_,rfl⟩⟩
/-- the walk,over any arguments of the parameters' types -/
theorem walk :∀ qs N,Ac Tryz.prog [25,3] qs N→N≤1048576→AC Tryz.prog 3 qs [] fun out _=>out=.ret (.bool true):=by
 intro qs N h hN
 obtain ⟨q0,Ob,A0,B0,rfl,e0,t0,g0⟩:=h
 obtain ⟨cs0,rfl,u0⟩:=t0.LP ⟨_,Tryz.underlying25⟩
 obtain ⟨x0,rfl,m0,w0⟩:=HY u0
 rw [av.au]
 obtain ⟨q1,Oa,A1,B1,rfl,e1,t1,g1⟩:=g0
 have u1:=t1.EH (by rw [Tryz.underlying3]; simp) (by rw [Tryz.underlying3]; simp)
 obtain ⟨x1,hx1,m1,w1⟩:=qM u1
 simp only [List.cons.injEq,and_true] at hx1
 subst hx1
 obtain ⟨rfl,e2⟩:=g1
 exact sj _ _ (uL x0 x1 (by omega) w0 w1) rfl
theorem JR {W:World} (hL:laidMet Tryz.prog [("math/bits.deBruijn32tab",Rows.laid_math_bits_deBruijn32tab),("math/bits.deBruijn64tab",Rows.laid_math_bits_deBruijn64tab),("internal/strconv.uint64pow10",Rows.laid_internal_strconv_uint64pow10),("unicode/utf8.acceptRanges",Rows.laid_unicode_utf8_acceptRanges),("strconv.ErrRange",Rows.laid_strconv_ErrRange),("strconv.ErrSyntax",Rows.laid_strconv_ErrSyntax),("unicode/utf8.first",Rows.laid_unicode_utf8_first)] W) (hS:W.ShapedOpen Tryz.prog):bX.G W (jg W):=by
 refine ⟨fun g hg=>?_,fun g hg=>?_,fun p hp=>?_⟩
 ·
  obtain rfl:=List.mem_singleton.1 hg
  obtain ⟨n,hn⟩:=Go.Proofs.cell_of_shapedOpen_int (g:=0) (zero:=#[.int .i64 0]) (t:=3) hS (of_decide_eq_true (by kernel_rfl)) (by kernel_rfl) rfl (by kernel_rfl) (by kernel_rfl) Tryz.underlying3
  exact ⟨xq hn,n,hn⟩
 ·
  simp only [List.mem_cons,List.not_mem_nil,or_false] at hg
  rcases hg with rfl | rfl
  ·
   obtain ⟨u,v,e⟩:=wB (g:=6) (t:=260) hL.tail.tail.tail.tail.tail (by kernel_rfl) (by kernel_rfl) (show Tryz.prog.underlying 260=some (.interface (Tryz.prog.methodsAt 260)) by kernel_rfl)
   exact ⟨xq e,u,v,e⟩
  ·
   obtain ⟨u,v,e⟩:=wB (g:=7) (t:=260) hL.tail.tail.tail.tail (by kernel_rfl) (by kernel_rfl) (show Tryz.prog.underlying 260=some (.interface (Tryz.prog.methodsAt 260)) by kernel_rfl)
   exact ⟨xq e,u,v,e⟩
 ·
  obtain rfl:=List.mem_singleton.1 hp
  exact Ew (by kernel_rfl) (Lib.tabIs_of_head (g:=3) (t:=486) (e:=54) (n:=20) (by kernel_rfl) (by kernel_rfl) (by kernel_rfl) (by kernel_rfl) (by kernel_rfl) (by kernel_rfl) (show laidMet Tryz.prog (("internal/strconv.uint64pow10",Lib.tabData .u64 Lib.pow10Tab) :: _) W from hL.tail.tail))
theorem Gl (os:Os):laidMet Tryz.prog Rows.agentBeginsUptoRow.laid ((World.laidAll Tryz.prog os Rows.agentBeginsUptoRow.laid).forCall (fun _ _=>0) ⟨#[],#[.agg #[.string ⟨#[]⟩,.slice none 0 0,.int .i64 0,.int .i64 0,.bool false,.int .i64 0,.int .i64 0,.int .i64 0,.slice none 0 0],.int .i64 0],[]⟩).memory:=
 laidMet_laidAll _ (by kernel_rfl) (by kernel_rfl)
theorem reads (os:Os) {H:Type} (enc:TypeId × Value→H):∃ places,DataW.whole enc Tryz.prog ((World.laidAll Tryz.prog os Rows.agentBeginsUptoRow.laid).forCall (fun _ _=>0) ⟨#[],#[.agg #[.string ⟨#[]⟩,.slice none 0 0,.int .i64 0,.int .i64 0,.bool false,.int .i64 0,.int .i64 0,.int .i64 0,.slice none 0 0],.int .i64 0],[]⟩).memory Tryz.f3.params.toList Rows.agentBeginsSpec.vars false (#[.agg #[.string ⟨#[]⟩,.slice none 0 0,.int .i64 0,.int .i64 0,.bool false,.int .i64 0,.int .i64 0,.int .i64 0,.slice none 0 0],.int .i64 0]:Array Value).toList 8=some ([.agg [.lit (.string []),.nil,.lit (.int .i64 0),.lit (.int .i64 0),.lit (.bool false),.lit (.int .i64 0),.lit (.int .i64 0),.lit (.int .i64 0),.nil],.lit (.int .i64 0)],[],places):=
 ⟨[],by kernel_rfl⟩
set_option maxRecDepth 100000 in
theorem lifted (os:Os) (started:os.Started) (H:Type) (enc:TypeId × Value→H) (F:Stop.Interp):
  ReturnsInHanded {} Tryz.checked os 3 .any ((Rows.OpenSpec.upto Rows.agentBeginsSpec).preRow enc Tryz.prog Tryz.f3 Rows.agentBeginsUptoRow.domain false Rows.agentBeginsUptoRow.laid) (((Rows.OpenSpec.upto Rows.agentBeginsSpec).at F).post enc Tryz.prog Tryz.f3 false true false false):=by
 obtain ⟨places,hx⟩:=reads os enc
 refine returnsInHanded_of_row (C:=Tryz.checked) (s:=Rows.OpenSpec.upto Rows.agentBeginsSpec) own started (by kernel_rfl) Tryz.func3
  (witness_row_atRef (enc:=enc) (C:=Tryz.checked) false (World.laidAll Tryz.prog os Rows.agentBeginsUptoRow.laid) #[.agg #[.string ⟨#[]⟩,.slice none 0 0,.int .i64 0,.int .i64 0,.bool false,.int .i64 0,.int .i64 0,.int .i64 0,.slice none 0 0],.int .i64 0] (World.laidAll_os _ _ _) (by kernel_rfl) (by kernel_rfl) (by kernel_rfl)
   (OpenSpec.preRow_of_cond 8 hx (by kernel_rfl) (fun k hk=>by cases hk; kernel_rfl) (by kernel_rfl) (by rw [MakeChecks.laidMetH_plain _ _ _ (by kernel_rfl)]; exact Gl os))) ?_
 intro W base args ds gs before hval hW _ hcond _ hlaid hshape _
 rw [MakeChecks.laidMetH_plain _ _ _ (by kernel_rfl)] at hlaid
 have hk:=hcond _ rfl
 have hk2:dY (ds ++ gs)≤1048576:=by
  have:=of_decide_eq_true hk
  rw [pO] at this
  exact this
 have hgs:gs=[]:=by
  obtain ⟨p,q,hA,hV,rfl,hfz,hnd⟩:=hW
  cases gs with
  | nil=>rfl
  | cons g gs=>exact hV.elim
 subst hgs
 rw [List.append_nil] at hk2
 refine EJ (P:=Tryz.prog) (S:=[3,4,9,22,23,25]) (tb:=4) (by kernel_rfl) (by rw [Tryz.params3]; decide) (by rw [Tryz.params3]; exact of_decide_eq_true (by kernel_rfl)) laidOut (by kernel_rfl) Tryz.underlying4 rfl ?_ (fun qs N h hN=>by rw [Tryz.params3] at h; exact walk qs N h (by omega)) hval hW (JR hlaid hshape)
 rw [Tryz.params3]
 intro ds hd
 match ds,hd with
 | [d0,d1],_=>rfl
end agentBegins
end Go.Proofs.YtdgljcpjcgldfaaGreatDoor
