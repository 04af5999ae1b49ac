/- Proved here: the walk of CachekeyValid, at the arguments of the row. -/
import Derived.Test.YtljfgagpnpolhaaGreatDoorKvWalk2
import Derived.Test.YtljfgagpnpolhaaGreatDoorKvPlain2
import Derived.Test.YtljfgagpnpolhaaGreatDoorRows
import Derived.Test.YtljfgagpnpolhaaGreatDoorCards
import Derived.Test.YtljfgagpnpolhaaGreatDoorTie
import Derived.WalkKit
import Derived.ProofKit
import Derived.OpenShut
import Derived.JoinedCond
import Derived.Deep.DeepHandedRow
import Derived.Deep.DeepWitnessRowRef
import Derived.Lay
import Derived.SevenTiedAt
import Derived.MakeChecks
set_option linter.unusedVariables false
set_option linter.unusedSimpArgs false
set_option linter.unusedSectionVars false
namespace Go.Proofs.YtljfgagpnpolhaaGreatDoor
open Go Go.Abs Go.Ft
section
variable [iF]
theorem Xo {c:List PV} {N:Nat} (h:Fx Tryz.prog 9 c N):∃ x:Str,c=[.str x]∧(x.length + 1)≤N:=by
 obtain ⟨s,rfl,rfl⟩:=h.YW Tryz.underlying9
 exact ⟨s,rfl,Nat.le_refl _⟩
theorem Uo {c:List PV} {N:Nat} (h:Fx Tryz.prog 22 c N):∃ x:List Str,c=[.list (List.map oh x)]∧((List.map (fun z:Str=>(z.length + 1)) x).sum + 1)≤N:=by
 obtain ⟨l,rfl,rfl,hl⟩:=h.Oq Tryz.underlying22
 obtain ⟨xs,h1,h2⟩:=QO (f:=oh) (μ:=fun z:Str=>(z.length + 1)) fun x hx=>Xo (hl x hx)
 exact ⟨xs,by rw [h1],by omega⟩
theorem Y_ {c:List PV} {N:Nat} (h:Fx Tryz.prog 24 c N):∃ x:bF,c=bF.cells x∧(bF.bulk x)≤N:=by
 obtain ⟨ps,rfl,rfl,hlen,hz⟩:=h.Ua Tryz.underlying24
 match ps,hlen with
 | [p0,p1,p2],_=>
  have k0:Fx Tryz.prog 9 p0.1 p0.2:=hz _ (List.mem_of_getElem? (i:=0) rfl)
  obtain ⟨x0,c0,b0⟩:=Xo k0
  have k1:Fx Tryz.prog 22 p1.1 p1.2:=hz _ (List.mem_of_getElem? (i:=1) rfl)
  obtain ⟨x1,c1,b1⟩:=Uo k1
  have k2:Fx Tryz.prog 22 p2.1 p2.2:=hz _ (List.mem_of_getElem? (i:=2) rfl)
  obtain ⟨x2,c2,b2⟩:=Uo k2
  refine ⟨⟨x0,x1,x2⟩,?_,?_⟩
  ·
   simp only [List.map_cons,List.map_nil,List.flatten_cons,List.flatten_nil,c0,c1,c2]
   first | rfl | simp [bF.cells]
  ·
   simp only [List.map_cons,List.map_nil,List.sum_cons,List.sum_nil] at *
   first | (simp only [bF.bulk]; omega) | (rw [bF.oD]; simp only; omega)
end
namespace cachekeyValid
open Go.ChangeShapes Go.WideShapes Go.ChangeAt Go.RowKit
theorem own :ownKnob Tryz.prog.godebug=none:=by kernel_rfl
theorem laidOut :laidOutB Tryz.prog=true:=by kernel_rfl
mutual
theorem xg {H:Type}:∀ d:DataW H,Rows.uptoBulk d=nU d
 | .lit (.string _)=>by simp only [Rows.uptoBulk,nU]
 | .lit (.bool _)=>by simp only [Rows.uptoBulk,nU]
 | .lit (.int _ _)=>by simp only [Rows.uptoBulk,nU]
 | .lit (.float _ _)=>by simp only [Rows.uptoBulk,nU]
 | .lit .nil=>by simp only [Rows.uptoBulk,nU]
 | .nil=>by simp only [Rows.uptoBulk,nU]
 | .ptr d=>by simp only [Rows.uptoBulk,nU,xg d]
 | .slice a b=>by simp only [Rows.uptoBulk,nU,D5 a,D5 b]
 | .agg a=>by simp only [Rows.uptoBulk,nU,D5 a]
 | .iface _ d=>by simp only [Rows.uptoBulk,nU,xg d]
 | .map a=>by simp only [Rows.uptoBulk,nU,NY a]
 | .held _=>by simp only [Rows.uptoBulk,nU]
theorem D5 {H:Type}:∀ l:List (DataW H),Rows.uptoBulkAll l=lT l
 | []=>by simp only [Rows.uptoBulkAll,lT]
 | d :: r=>by simp only [Rows.uptoBulkAll,lT,xg d,D5 r]
theorem NY {H:Type}:∀ l:List (Lit × DataW H),Rows.uptoBulkEntries l=vG l
 | []=>by simp only [Rows.uptoBulkEntries,vG]
 | x :: r=>by simp only [Rows.uptoBulkEntries,vG,Yb x,NY r]
theorem Yb {H:Type}:∀ x:Lit × DataW H,Rows.uptoBulkEntry x=tK x
 | (.string _,d)=>by simp only [Rows.uptoBulkEntry,tK,xg d]
 | (.bool _,d)=>by simp only [Rows.uptoBulkEntry,tK,xg d]
 | (.int _ _,d)=>by simp only [Rows.uptoBulkEntry,tK,xg d]
 | (.float _ _,d)=>by simp only [Rows.uptoBulkEntry,tK,xg d]
 | (.nil,d)=>by simp only [Rows.uptoBulkEntry,tK,xg d]
end
instance ae0 :iF:=adj [1] [6,7] [(0,Lib.pow10Tab.map fun z=>Value.int .u64 z)]
instance evI :Jy where
 hD:=id
 max:=fun w m h=>(h.1 1 (by simp)).2
 pow:=fun w m h=>VO (g:=0) (by kernel_rfl) (by decide) fun off=>(h.2.2 (0,Lib.pow10Tab.map fun z=>Value.int .u64 z) (by simp) off).2
 syn:=fun w m h=>by
  obtain ⟨_,u,v,e⟩:=h.2.1 6 (by simp)
  exact ⟨_,e,.inr ⟨_,_,rfl⟩⟩
 rng:=fun w m h=>by
  obtain ⟨_,u,v,e⟩:=h.2.1 7 (by simp)
  exact ⟨_,e,.inr ⟨_,_,rfl⟩⟩
/-- the walk,over any arguments of the parameters' types -/
theorem walk :∀ qs N,Pz Tryz.prog [24] qs N→N≤1048576→AC Tryz.prog 3 qs [] fun out _=>out=.ret (.bool true):=by
 intro qs N h hN
 obtain ⟨q0,qs0,A0,B0,rfl,e0,t0,g0⟩:=h
 obtain ⟨cs0,rfl,u0⟩:=t0.adz ⟨_,Tryz.underlying24⟩
 obtain ⟨x0,rfl,m0⟩:=Y_ u0
 rw [bF.aT]
 obtain ⟨rfl,e1⟩:=g0
 exact Ey _ (Ga x0 (by omega)) rfl
theorem aby {W:World} (hL:laidMet Tryz.prog [("math/bits.deBruijn32tab",Rows.laid_math_bits_deBruijn32tab),("math/bits.deBruijn64tab",Rows.laid_math_bits_deBruijn64tab),("internal/strconv.uint64pow10",Rows.laid_internal_strconv_uint64pow10),("unicode/utf8.acceptRanges",Rows.laid_unicode_utf8_acceptRanges),("strconv.ErrRange",Rows.laid_strconv_ErrRange),("strconv.ErrSyntax",Rows.laid_strconv_ErrSyntax),("unicode/utf8.first",Rows.laid_unicode_utf8_first)] W) (hS:W.ShapedOpen Tryz.prog):iF.G W (tN W):=by
 refine ⟨fun g hg=>?_,fun g hg=>?_,fun p hp=>?_⟩
 ·
  obtain rfl:=List.mem_singleton.1 hg
  obtain ⟨n,hn⟩:=Go.Proofs.cell_of_shapedOpen_int (g:=1) (zero:=#[.int .i64 0]) (t:=3) hS (of_decide_eq_true (by kernel_rfl)) (by kernel_rfl) rfl (by kernel_rfl) (by kernel_rfl) Tryz.underlying3
  exact ⟨LA hn,n,hn⟩
 ·
  simp only [List.mem_cons,List.not_mem_nil,or_false] at hg
  rcases hg with rfl | rfl
  ·
   obtain ⟨u,v,e⟩:=KY (g:=6) (t:=106) hL.tail.tail.tail.tail.tail (by kernel_rfl) (by kernel_rfl) (show Tryz.prog.underlying 106=some (.interface (Tryz.prog.methodsAt 106)) by kernel_rfl)
   exact ⟨LA e,u,v,e⟩
  ·
   obtain ⟨u,v,e⟩:=KY (g:=7) (t:=106) hL.tail.tail.tail.tail (by kernel_rfl) (by kernel_rfl) (show Tryz.prog.underlying 106=some (.interface (Tryz.prog.methodsAt 106)) by kernel_rfl)
   exact ⟨LA e,u,v,e⟩
 ·
  obtain rfl:=List.mem_singleton.1 hp
  exact UY (by kernel_rfl) (Lib.tabIs_of_head (g:=0) (t:=314) (e:=37) (n:=20) (by kernel_rfl) (by kernel_rfl) (by kernel_rfl) (by kernel_rfl) (by kernel_rfl) (by kernel_rfl) (show laidMet Tryz.prog (("internal/strconv.uint64pow10",Lib.tabData .u64 Lib.pow10Tab) :: _) W from hL.tail.tail))
theorem XH (os:Os):laidMet Tryz.prog Rows.cachekeyValidUptoRow.laid ((World.laidAll Tryz.prog os Rows.cachekeyValidUptoRow.laid).forCall (fun _ _=>0) ⟨#[],#[.agg #[.string ⟨#[]⟩,.slice none 0 0,.slice none 0 0]],[]⟩).memory:=
 laidMet_laidAll _ (by kernel_rfl) (by kernel_rfl)
theorem reads (os:Os) {H:Type} (enc:TypeId × Value→H):∃ places,DataW.whole enc Tryz.prog ((World.laidAll Tryz.prog os Rows.cachekeyValidUptoRow.laid).forCall (fun _ _=>0) ⟨#[],#[.agg #[.string ⟨#[]⟩,.slice none 0 0,.slice none 0 0]],[]⟩).memory Tryz.f3.params.toList Rows.cachekeyValidSpec.vars false (#[.agg #[.string ⟨#[]⟩,.slice none 0 0,.slice none 0 0]]:Array Value).toList 8=some ([.agg [.lit (.string []),.nil,.nil]],[],places):=
 ⟨[],by kernel_rfl⟩
set_option maxRecDepth 100000 in
theorem lifted (os:Os) (started:os.Started) (H:Type) (enc:TypeId × Value→H) (F:Stop.Interp):
  ReturnsInHanded {} Tryz.checked os 3 .any ((Rows.OpenSpec.upto Rows.cachekeyValidSpec).preRow enc Tryz.prog Tryz.f3 Rows.cachekeyValidUptoRow.domain false Rows.cachekeyValidUptoRow.laid) (((Rows.OpenSpec.upto Rows.cachekeyValidSpec).at F).post enc Tryz.prog Tryz.f3 false true false false):=by
 obtain ⟨places,hx⟩:=reads os enc
 refine returnsInHanded_of_row (C:=Tryz.checked) (s:=Rows.OpenSpec.upto Rows.cachekeyValidSpec) own started (by kernel_rfl) Tryz.func3
  (witness_row_atRef (enc:=enc) (C:=Tryz.checked) false (World.laidAll Tryz.prog os Rows.cachekeyValidUptoRow.laid) #[.agg #[.string ⟨#[]⟩,.slice none 0 0,.slice none 0 0]] (World.laidAll_os _ _ _) (by kernel_rfl) (by kernel_rfl) (by kernel_rfl)
   (OpenSpec.preRow_of_cond 8 hx (by kernel_rfl) (fun k hk=>by cases hk; kernel_rfl) (by kernel_rfl) (by rw [MakeChecks.laidMetH_plain _ _ _ (by kernel_rfl)]; exact XH os))) ?_
 intro W base args ds gs before hval hW _ hcond _ hlaid hshape _
 rw [MakeChecks.laidMetH_plain _ _ _ (by kernel_rfl)] at hlaid
 have hk:=hcond _ rfl
 have hk2:lT (ds ++ gs)≤1048576:=by
  have:=of_decide_eq_true hk
  rw [D5] at this
  exact this
 have hgs:gs=[]:=by
  obtain ⟨p,q,hA,hV,rfl,hfz,hnd⟩:=hW
  cases gs with
  | nil=>rfl
  | cons g gs=>exact hV.elim
 subst hgs
 rw [List.append_nil] at hk2
 refine Vt (P:=Tryz.prog) (S:=[9,22,24]) (tb:=4) (by kernel_rfl) (by rw [Tryz.params3]; decide) (by rw [Tryz.params3]; exact of_decide_eq_true (by kernel_rfl)) laidOut (by kernel_rfl) Tryz.underlying4 rfl ?_ (fun qs N h hN=>by rw [Tryz.params3] at h; exact walk qs N h (by omega)) hval hW (aby hlaid hshape)
 rw [Tryz.params3]
 intro ds hd
 match ds,hd with
 | [d0],_=>rfl
end cachekeyValid
end Go.Proofs.YtljfgagpnpolhaaGreatDoor
