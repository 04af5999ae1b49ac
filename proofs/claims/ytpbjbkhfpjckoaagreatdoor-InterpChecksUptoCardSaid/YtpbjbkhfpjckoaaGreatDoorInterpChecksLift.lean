/- Proved here: the walk of InterpChecks, at the arguments of the row. -/
import Derived.Test.YtpbjbkhfpjckoaaGreatDoorIcWalk2
import Derived.Test.YtpbjbkhfpjckoaaGreatDoorIcPlain2
import Derived.Test.YtpbjbkhfpjckoaaGreatDoorRows
import Derived.Test.YtpbjbkhfpjckoaaGreatDoorCards
import Derived.Test.YtpbjbkhfpjckoaaGreatDoorTie
import Derived.WalkKit
import Derived.ProofKit
import Derived.OpenShut
import Derived.JoinedCond
import Derived.Deep.DeepHandedRow
import Derived.Deep.DeepWitnessRowRef
import Derived.Lay
import Derived.SevenTiedAt
import Derived.MakeChecks
set_option linter.unusedVariables false
set_option linter.unusedSimpArgs false
set_option linter.unusedSectionVars false
namespace Go.Proofs.YtpbjbkhfpjckoaaGreatDoor
open Go Go.Abs Go.Ft
section
variable [fJ]
theorem Zh {c:List PV} {N:Nat} (h:Ee Tryz.prog 9 c N):∃ x:Str,c=[.str x]∧(x.length + 1)≤N:=by
 obtain ⟨s,rfl,rfl⟩:=h.abL Tryz.underlying9
 exact ⟨s,rfl,Nat.le_refl _⟩
theorem ae1 {c:List PV} {N:Nat} (h:Ee Tryz.prog 3 c N):∃ x:Int,c=[.int .i64 x]∧1≤N:=by
 obtain ⟨n,rfl,hw,rfl⟩:=h.ab7 Tryz.underlying3
 exact ⟨n,rfl,Nat.le_refl _⟩
theorem abZ :∀ {c:List PV} {N:Nat} (h:Ee Tryz.prog 63 c N),∃ x:au,c=au.cells x∧(au.bulk x)≤N:=by
 have key:∀ (M:Nat) {c:List PV},Ee Tryz.prog 63 c M→∃ x:au,c=au.cells x∧(au.bulk x)≤M:=by
  intro M
  induction M using Nat.strongRecOn with
  | _ M ih=>
   intro c h
   obtain ⟨ps,rfl,hNe,hlen,hz⟩:=h.P8 Tryz.underlying63
   match ps,hlen with
   | [p0,p1],_=>
    have hN:=hNe
    simp only [List.map_cons,List.map_nil,List.sum_cons,List.sum_nil] at hN
    have k0:Ee Tryz.prog 3 p0.1 p0.2:=hz _ (List.mem_of_getElem? (i:=0) rfl)
    obtain ⟨x0,c0,b0⟩:=ae1 k0
    have k1:Ee Tryz.prog 61 p1.1 p1.2:=hz _ (List.mem_of_getElem? (i:=1) rfl)
    obtain ⟨l1,e1,m1,hl1⟩:=k1.LC Tryz.underlying61
    have hle1:∀ x∈l1,x.2≤(l1.map (·.2)).sum:=fun x hx=>Zu hx
    obtain ⟨as1,q1,r1⟩:=Mx (f:=au.cells) (μ:=au.bulk) fun x hx=>ih x.2 (by have:=hle1 x hx; omega) (hl1 x hx)
    obtain ⟨x1,c1,b1⟩:∃ x:List au,p1.1=[.list (au.bC x)]∧au.kT x + 1≤p1.2:=⟨as1,by rw [e1,q1,au.bV],by rw [au.pE]; omega⟩
    refine ⟨⟨x0,x1⟩,?_,?_⟩
    ·
     simp only [List.map_cons,List.map_nil,List.flatten_cons,List.flatten_nil,c0,c1]
     first | rfl | simp [au.cells]
    ·
     simp only [List.map_cons,List.map_nil,List.sum_cons,List.sum_nil] at *
     first | (simp only [au.bulk]; omega) | (rw [au.lZ]; simp only; omega)
 intro c N h
 exact key N h
theorem abY {c:List PV} {N:Nat} (h:Ee Tryz.prog 66 c N):∃ x:aO,c=aO.cells x∧(aO.bulk x)≤N:=by
 obtain ⟨ps,rfl,rfl,hlen,hz⟩:=h.P8 Tryz.underlying66
 match ps,hlen with
 | [p0,p1],_=>
  have k0:Ee Tryz.prog 9 p0.1 p0.2:=hz _ (List.mem_of_getElem? (i:=0) rfl)
  obtain ⟨x0,c0,b0⟩:=Zh k0
  have k1:Ee Tryz.prog 63 p1.1 p1.2:=hz _ (List.mem_of_getElem? (i:=1) rfl)
  obtain ⟨x1,c1,b1⟩:=abZ k1
  refine ⟨⟨x0,x1⟩,?_,?_⟩
  ·
   simp only [List.map_cons,List.map_nil,List.flatten_cons,List.flatten_nil,c0,c1]
   first | rfl | simp [aO.cells,au.aS]
  ·
   simp only [List.map_cons,List.map_nil,List.sum_cons,List.sum_nil] at *
   first | (simp only [aO.bulk]; omega) | (rw [aO.lZ]; simp only; omega)
theorem ab0 {c:List PV} {N:Nat} (h:Ee Tryz.prog 49 c N):∃ x:List aO,c=[.list (List.map aO.cells x)]∧((List.map (fun z:aO=>(aO.bulk z)) x).sum + 1)≤N:=by
 obtain ⟨l,rfl,rfl,hl⟩:=h.LC Tryz.underlying49
 obtain ⟨xs,h1,h2⟩:=Mx (f:=aO.cells) (μ:=fun z:aO=>(aO.bulk z)) fun x hx=>abY (hl x hx)
 exact ⟨xs,by rw [h1],by omega⟩
end
namespace interpChecks
open Go.ChangeShapes Go.WideShapes Go.ChangeAt Go.RowKit
theorem own :ownKnob Tryz.prog.godebug=none:=by kernel_rfl
theorem laidOut :laidOutB Tryz.prog=true:=by kernel_rfl
mutual
theorem yg {H:Type}:∀ d:DataW H,Rows.uptoBulk d=nV d
 | .lit (.string _)=>by simp only [Rows.uptoBulk,nV]
 | .lit (.bool _)=>by simp only [Rows.uptoBulk,nV]
 | .lit (.int _ _)=>by simp only [Rows.uptoBulk,nV]
 | .lit (.float _ _)=>by simp only [Rows.uptoBulk,nV]
 | .lit .nil=>by simp only [Rows.uptoBulk,nV]
 | .nil=>by simp only [Rows.uptoBulk,nV]
 | .ptr d=>by simp only [Rows.uptoBulk,nV,yg d]
 | .slice a b=>by simp only [Rows.uptoBulk,nV,E9 a,E9 b]
 | .agg a=>by simp only [Rows.uptoBulk,nV,E9 a]
 | .iface _ d=>by simp only [Rows.uptoBulk,nV,yg d]
 | .map a=>by simp only [Rows.uptoBulk,nV,PD a]
 | .held _=>by simp only [Rows.uptoBulk,nV]
theorem E9 {H:Type}:∀ l:List (DataW H),Rows.uptoBulkAll l=lI l
 | []=>by simp only [Rows.uptoBulkAll,lI]
 | d :: r=>by simp only [Rows.uptoBulkAll,lI,yg d,E9 r]
theorem PD {H:Type}:∀ l:List (Lit × DataW H),Rows.uptoBulkEntries l=wB l
 | []=>by simp only [Rows.uptoBulkEntries,wB]
 | x :: r=>by simp only [Rows.uptoBulkEntries,wB,aam x,PD r]
theorem aam {H:Type}:∀ x:Lit × DataW H,Rows.uptoBulkEntry x=uF x
 | (.string _,d)=>by simp only [Rows.uptoBulkEntry,uF,yg d]
 | (.bool _,d)=>by simp only [Rows.uptoBulkEntry,uF,yg d]
 | (.int _ _,d)=>by simp only [Rows.uptoBulkEntry,uF,yg d]
 | (.float _ _,d)=>by simp only [Rows.uptoBulkEntry,uF,yg d]
 | (.nil,d)=>by simp only [Rows.uptoBulkEntry,uF,yg d]
end
instance ajG :fJ:=ahr [0] [6,7] [(3,Lib.pow10Tab.map fun z=>Value.int .u64 z)]
instance evI :I6 where
 hD:=id
 max:=fun w m h=>(h.1 0 (by simp)).2
 pow:=fun w m h=>XK (g:=3) (by kernel_rfl) (by decide) fun off=>(h.2.2 (3,Lib.pow10Tab.map fun z=>Value.int .u64 z) (by simp) off).2
 syn:=fun w m h=>by
  obtain ⟨_,u,v,e⟩:=h.2.1 6 (by simp)
  exact ⟨_,e,.inr ⟨_,_,rfl⟩⟩
 rng:=fun w m h=>by
  obtain ⟨_,u,v,e⟩:=h.2.1 7 (by simp)
  exact ⟨_,e,.inr ⟨_,_,rfl⟩⟩
/-- the walk,over any arguments of the parameters' types -/
theorem walk :∀ qs N,Ra Tryz.prog [9,49] qs N→N≤1048576→AC Tryz.prog 6 qs [] fun out _=>out=.ret (.bool true):=by
 intro qs N h hN
 obtain ⟨q0,qs0,A0,B0,rfl,e0,t0,g0⟩:=h
 have u0:=t0.Xa (by rw [Tryz.underlying9]; simp) (by rw [Tryz.underlying9]; simp)
 obtain ⟨x0,hx0,m0⟩:=Zh u0
 simp only [List.cons.injEq,and_true] at hx0
 subst hx0
 obtain ⟨q1,qs1,A1,B1,rfl,e1,t1,g1⟩:=g0
 have u1:=t1.Xa (by rw [Tryz.underlying49]; simp) (by rw [Tryz.underlying49]; simp)
 obtain ⟨x1,hx1,m1⟩:=ab0 u1
 simp only [List.cons.injEq,and_true] at hx1
 subst hx1
 obtain ⟨rfl,e2⟩:=g1
 exact GZ _ _ (Js x0 x1 (by omega)) rfl
theorem afk {W:World} (hL:laidMet Tryz.prog [("math/bits.deBruijn32tab",Rows.laid_math_bits_deBruijn32tab),("math/bits.deBruijn64tab",Rows.laid_math_bits_deBruijn64tab),("internal/strconv.uint64pow10",Rows.laid_internal_strconv_uint64pow10),("unicode/utf8.acceptRanges",Rows.laid_unicode_utf8_acceptRanges),("strconv.ErrRange",Rows.laid_strconv_ErrRange),("strconv.ErrSyntax",Rows.laid_strconv_ErrSyntax),("unicode/utf8.first",Rows.laid_unicode_utf8_first)] W) (hS:W.ShapedOpen Tryz.prog):fJ.G W (uG W):=by
 refine ⟨fun g hg=>?_,fun g hg=>?_,fun p hp=>?_⟩
 ·
  obtain rfl:=List.mem_singleton.1 hg
  obtain ⟨n,hn⟩:=Go.Proofs.cell_of_shapedOpen_int (g:=0) (zero:=#[.int .i64 0]) (t:=3) hS (of_decide_eq_true (by kernel_rfl)) (by kernel_rfl) rfl (by kernel_rfl) (by kernel_rfl) Tryz.underlying3
  exact ⟨Nf hn,n,hn⟩
 ·
  simp only [List.mem_cons,List.not_mem_nil,or_false] at hg
  rcases hg with rfl | rfl
  ·
   obtain ⟨u,v,e⟩:=MF (g:=6) (t:=77) hL.tail.tail.tail.tail.tail (by kernel_rfl) (by kernel_rfl) (show Tryz.prog.underlying 77=some (.interface (Tryz.prog.methodsAt 77)) by kernel_rfl)
   exact ⟨Nf e,u,v,e⟩
  ·
   obtain ⟨u,v,e⟩:=MF (g:=7) (t:=77) hL.tail.tail.tail.tail (by kernel_rfl) (by kernel_rfl) (show Tryz.prog.underlying 77=some (.interface (Tryz.prog.methodsAt 77)) by kernel_rfl)
   exact ⟨Nf e,u,v,e⟩
 ·
  obtain rfl:=List.mem_singleton.1 hp
  exact WB (by kernel_rfl) (Lib.tabIs_of_head (g:=3) (t:=334) (e:=271) (n:=20) (by kernel_rfl) (by kernel_rfl) (by kernel_rfl) (by kernel_rfl) (by kernel_rfl) (by kernel_rfl) (show laidMet Tryz.prog (("internal/strconv.uint64pow10",Lib.tabData .u64 Lib.pow10Tab) :: _) W from hL.tail.tail))
theorem Zw (os:Os):laidMet Tryz.prog Rows.interpChecksUptoRow.laid ((World.laidAll Tryz.prog os Rows.interpChecksUptoRow.laid).forCall (fun _ _=>0) ⟨#[],#[.string ⟨#[]⟩,.slice none 0 0],[]⟩).memory:=
 laidMet_laidAll _ (by kernel_rfl) (by kernel_rfl)
theorem reads (os:Os) {H:Type} (enc:TypeId × Value→H):∃ places,DataW.whole enc Tryz.prog ((World.laidAll Tryz.prog os Rows.interpChecksUptoRow.laid).forCall (fun _ _=>0) ⟨#[],#[.string ⟨#[]⟩,.slice none 0 0],[]⟩).memory Tryz.f6.params.toList Rows.interpChecksSpec.vars false (#[.string ⟨#[]⟩,.slice none 0 0]:Array Value).toList 8=some ([.lit (.string []),.nil],[],places):=
 ⟨[],by kernel_rfl⟩
set_option maxRecDepth 100000 in
theorem lifted (os:Os) (started:os.Started) (H:Type) (enc:TypeId × Value→H) (F:Stop.Interp):
  ReturnsInHanded {} Tryz.checked os 6 .any ((Rows.OpenSpec.upto Rows.interpChecksSpec).preRow enc Tryz.prog Tryz.f6 Rows.interpChecksUptoRow.domain false Rows.interpChecksUptoRow.laid) (((Rows.OpenSpec.upto Rows.interpChecksSpec).at F).post enc Tryz.prog Tryz.f6 false true false false):=by
 obtain ⟨places,hx⟩:=reads os enc
 refine returnsInHanded_of_row (C:=Tryz.checked) (s:=Rows.OpenSpec.upto Rows.interpChecksSpec) own started (by kernel_rfl) Tryz.func6
  (witness_row_atRef (enc:=enc) (C:=Tryz.checked) false (World.laidAll Tryz.prog os Rows.interpChecksUptoRow.laid) #[.string ⟨#[]⟩,.slice none 0 0] (World.laidAll_os _ _ _) (by kernel_rfl) (by kernel_rfl) (by kernel_rfl)
   (OpenSpec.preRow_of_cond 8 hx (by kernel_rfl) (fun k hk=>by cases hk; kernel_rfl) (by kernel_rfl) (by rw [MakeChecks.laidMetH_plain _ _ _ (by kernel_rfl)]; exact Zw os))) ?_
 intro W base args ds gs before hval hW _ hcond _ hlaid hshape _
 rw [MakeChecks.laidMetH_plain _ _ _ (by kernel_rfl)] at hlaid
 have hk:=hcond _ rfl
 have hk2:lI (ds ++ gs)≤1048576:=by
  have:=of_decide_eq_true hk
  rw [E9] at this
  exact this
 have hgs:gs=[]:=by
  obtain ⟨p,q,hA,hV,rfl,hfz,hnd⟩:=hW
  cases gs with
  | nil=>rfl
  | cons g gs=>exact hV.elim
 subst hgs
 rw [List.append_nil] at hk2
 refine Xj (P:=Tryz.prog) (S:=[3,9,49,61,63,66]) (tb:=4) (by kernel_rfl) (by rw [Tryz.params6]; decide) (by rw [Tryz.params6]; exact of_decide_eq_true (by kernel_rfl)) laidOut (by kernel_rfl) Tryz.underlying4 rfl ?_ (fun qs N h hN=>by rw [Tryz.params6] at h; exact walk qs N h (by omega)) hval hW (afk hlaid hshape)
 rw [Tryz.params6]
 intro ds hd
 match ds,hd with
 | [d0,d1],_=>rfl
end interpChecks
end Go.Proofs.YtpbjbkhfpjckoaaGreatDoor
