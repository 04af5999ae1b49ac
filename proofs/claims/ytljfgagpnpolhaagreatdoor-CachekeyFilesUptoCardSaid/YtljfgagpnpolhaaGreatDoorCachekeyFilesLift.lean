/- Proved here: the walk of CachekeyFiles, at the arguments of the row. -/
import Derived.Test.YtljfgagpnpolhaaGreatDoorKfWalk1
import Derived.Test.YtljfgagpnpolhaaGreatDoorKfPlain1
import Derived.Test.YtljfgagpnpolhaaGreatDoorRows
import Derived.Test.YtljfgagpnpolhaaGreatDoorCards
import Derived.Test.YtljfgagpnpolhaaGreatDoorTie
import Derived.WalkKit
import Derived.ProofKit
import Derived.OpenShut
import Derived.JoinedCond
import Derived.Deep.DeepHandedRow
import Derived.Deep.DeepWitnessRowRef
import Derived.Lay
import Derived.SevenTiedAt
import Derived.MakeChecks
set_option linter.unusedVariables false
set_option linter.unusedSimpArgs false
set_option linter.unusedSectionVars false
namespace Go.Proofs.YtljfgagpnpolhaaGreatDoor
open Go Go.Abs Go.Ft
section
variable [dn]
theorem H6 {c:List PV} {N:Nat} (h:uG Tryz.prog 9 c N):∃ x:Str,c=[.str x]∧(x.length + 1)≤N:=by
 obtain ⟨s,rfl,rfl⟩:=h.Jo Tryz.underlying9
 exact ⟨s,rfl,Nat.le_refl _⟩
theorem Js {c:List PV} {N:Nat} (h:uG Tryz.prog 38 c N):∃ x:BitVec 64,c=[.int .u64 (x.toNat:Int)]∧1≤N:=by
 obtain ⟨n,rfl,hw,rfl⟩:=h.Jy Tryz.underlying38
 obtain ⟨c,rfl⟩:=wf_u64 hw
 exact ⟨c,rfl,Nat.le_refl _⟩
theorem Jr {c:List PV} {N:Nat} (h:uG Tryz.prog 43 c N):∃ x:av,c=av.cells x∧(av.bulk x)≤N:=by
 obtain ⟨ps,rfl,rfl,hlen,hz⟩:=h.E5 Tryz.underlying43
 match ps,hlen with
 | [p0,p1],_=>
  have k0:uG Tryz.prog 9 p0.1 p0.2:=hz _ (List.mem_of_getElem? (i:=0) rfl)
  obtain ⟨x0,c0,b0⟩:=H6 k0
  have k1:uG Tryz.prog 38 p1.1 p1.2:=hz _ (List.mem_of_getElem? (i:=1) rfl)
  obtain ⟨x1,c1,b1⟩:=Js k1
  refine ⟨⟨x0,x1⟩,?_,?_⟩
  ·
   simp only [List.map_cons,List.map_nil,List.flatten_cons,List.flatten_nil,c0,c1]
   first | rfl | simp [av.cells]
  ·
   simp only [List.map_cons,List.map_nil,List.sum_cons,List.sum_nil] at *
   first | (simp only [av.bulk]; omega) | (rw [av.Fz]; simp only; omega)
theorem Jt {c:List PV} {N:Nat} (h:uG Tryz.prog 27 c N):∃ x:List av,c=[.list (List.map av.cells x)]∧((List.map (fun z:av=>(av.bulk z)) x).sum + 1)≤N:=by
 obtain ⟨l,rfl,rfl,hl⟩:=h.yU Tryz.underlying27
 obtain ⟨xs,h1,h2⟩:=zC (f:=av.cells) (μ:=fun z:av=>(av.bulk z)) fun x hx=>Jr (hl x hx)
 exact ⟨xs,by rw [h1],by omega⟩
theorem Ju {c:List PV} {N:Nat} (h:uG Tryz.prog 22 c N):∃ x:List Str,c=[.list (List.map kF x)]∧((List.map (fun z:Str=>(z.length + 1)) x).sum + 1)≤N:=by
 obtain ⟨l,rfl,rfl,hl⟩:=h.yU Tryz.underlying22
 obtain ⟨xs,h1,h2⟩:=zC (f:=kF) (μ:=fun z:Str=>(z.length + 1)) fun x hx=>H6 (hl x hx)
 exact ⟨xs,by rw [h1],by omega⟩
end
namespace cachekeyFiles
open Go.ChangeShapes Go.WideShapes Go.ChangeAt Go.RowKit
theorem own :ownKnob Tryz.prog.godebug=none:=by kernel_rfl
theorem laidOut :laidOutB Tryz.prog=true:=by kernel_rfl
mutual
theorem nk {H:Type}:∀ d:DataW H,Rows.uptoBulk d=iw d
 | .lit (.string _)=>by simp only [Rows.uptoBulk,iw]
 | .lit (.bool _)=>by simp only [Rows.uptoBulk,iw]
 | .lit (.int _ _)=>by simp only [Rows.uptoBulk,iw]
 | .lit (.float _ _)=>by simp only [Rows.uptoBulk,iw]
 | .lit .nil=>by simp only [Rows.uptoBulk,iw]
 | .nil=>by simp only [Rows.uptoBulk,iw]
 | .ptr d=>by simp only [Rows.uptoBulk,iw,nk d]
 | .slice a b=>by simp only [Rows.uptoBulk,iw,tO a,tO b]
 | .agg a=>by simp only [Rows.uptoBulk,iw,tO a]
 | .iface _ d=>by simp only [Rows.uptoBulk,iw,nk d]
 | .map a=>by simp only [Rows.uptoBulk,iw,Bw a]
 | .held _=>by simp only [Rows.uptoBulk,iw]
theorem tO {H:Type}:∀ l:List (DataW H),Rows.uptoBulkAll l=fQ l
 | []=>by simp only [Rows.uptoBulkAll,fQ]
 | d :: r=>by simp only [Rows.uptoBulkAll,fQ,nk d,tO r]
theorem Bw {H:Type}:∀ l:List (Lit × DataW H),Rows.uptoBulkEntries l=l5 l
 | []=>by simp only [Rows.uptoBulkEntries,l5]
 | x :: r=>by simp only [Rows.uptoBulkEntries,l5,IB x,Bw r]
theorem IB {H:Type}:∀ x:Lit × DataW H,Rows.uptoBulkEntry x=kL x
 | (.string _,d)=>by simp only [Rows.uptoBulkEntry,kL,nk d]
 | (.bool _,d)=>by simp only [Rows.uptoBulkEntry,kL,nk d]
 | (.int _ _,d)=>by simp only [Rows.uptoBulkEntry,kL,nk d]
 | (.float _ _,d)=>by simp only [Rows.uptoBulkEntry,kL,nk d]
 | (.nil,d)=>by simp only [Rows.uptoBulkEntry,kL,nk d]
end
instance Ob :dn:=M4 [] [] []
instance OG :OB where
 hD:=id
/-- the walk,over any arguments of the parameters' types -/
theorem walk :∀ qs N,CZ Tryz.prog [27,22] qs N→N≤1048576→AC Tryz.prog 5 qs [] fun out _=>out=.ret (.bool true):=by
 intro qs N h hN
 obtain ⟨q0,OD,A0,B0,rfl,e0,t0,g0⟩:=h
 have u0:=t0.F4 (by rw [Tryz.underlying27]; simp) (by rw [Tryz.underlying27]; simp)
 obtain ⟨x0,hx0,m0⟩:=Jt u0
 simp only [List.cons.injEq,and_true] at hx0
 subst hx0
 obtain ⟨q1,OC,A1,B1,rfl,e1,t1,g1⟩:=g0
 have u1:=t1.F4 (by rw [Tryz.underlying22]; simp) (by rw [Tryz.underlying22]; simp)
 obtain ⟨x1,hx1,m1⟩:=Ju u1
 simp only [List.cons.injEq,and_true] at hx1
 subst hx1
 obtain ⟨rfl,e2⟩:=g1
 exact uz _ _ (vY x0 x1 (by omega)) rfl
theorem Ld {W:World} (hL:laidMet Tryz.prog [("math/bits.deBruijn32tab",Rows.laid_math_bits_deBruijn32tab),("math/bits.deBruijn64tab",Rows.laid_math_bits_deBruijn64tab),("internal/strconv.uint64pow10",Rows.laid_internal_strconv_uint64pow10),("unicode/utf8.acceptRanges",Rows.laid_unicode_utf8_acceptRanges),("strconv.ErrRange",Rows.laid_strconv_ErrRange),("strconv.ErrSyntax",Rows.laid_strconv_ErrSyntax),("unicode/utf8.first",Rows.laid_unicode_utf8_first)] W) (hS:W.ShapedOpen Tryz.prog):dn.G W (mM W):=by
 refine ⟨fun g hg=>?_,fun g hg=>?_,fun p hp=>?_⟩
 · cases hg
 · cases hg
 · cases hp
theorem Ig (os:Os):laidMet Tryz.prog Rows.cachekeyFilesUptoRow.laid ((World.laidAll Tryz.prog os Rows.cachekeyFilesUptoRow.laid).forCall (fun _ _=>0) ⟨#[],#[.slice none 0 0,.slice none 0 0],[]⟩).memory:=
 laidMet_laidAll _ (by kernel_rfl) (by kernel_rfl)
theorem reads (os:Os) {H:Type} (enc:TypeId × Value→H):∃ places,DataW.whole enc Tryz.prog ((World.laidAll Tryz.prog os Rows.cachekeyFilesUptoRow.laid).forCall (fun _ _=>0) ⟨#[],#[.slice none 0 0,.slice none 0 0],[]⟩).memory Tryz.f5.params.toList Rows.cachekeyFilesSpec.vars false (#[.slice none 0 0,.slice none 0 0]:Array Value).toList 8=some ([.nil,.nil],[],places):=
 ⟨[],by kernel_rfl⟩
set_option maxRecDepth 100000 in
theorem lifted (os:Os) (started:os.Started) (H:Type) (enc:TypeId × Value→H) (F:Stop.Interp):
  ReturnsInHanded {} Tryz.checked os 5 .any ((Rows.OpenSpec.upto Rows.cachekeyFilesSpec).preRow enc Tryz.prog Tryz.f5 Rows.cachekeyFilesUptoRow.domain false Rows.cachekeyFilesUptoRow.laid) (((Rows.OpenSpec.upto Rows.cachekeyFilesSpec).at F).post enc Tryz.prog Tryz.f5 false true false false):=by
 obtain ⟨places,hx⟩:=reads os enc
 refine returnsInHanded_of_row (C:=Tryz.checked) (s:=Rows.OpenSpec.upto Rows.cachekeyFilesSpec) own started (by kernel_rfl) Tryz.func5
  (witness_row_atRef (enc:=enc) (C:=Tryz.checked) false (World.laidAll Tryz.prog os Rows.cachekeyFilesUptoRow.laid) #[.slice none 0 0,.slice none 0 0] (World.laidAll_os _ _ _) (by kernel_rfl) (by kernel_rfl) (by kernel_rfl)
   (OpenSpec.preRow_of_cond 8 hx (by kernel_rfl) (fun k hk=>by cases hk; kernel_rfl) (by kernel_rfl) (by rw [MakeChecks.laidMetH_plain _ _ _ (by kernel_rfl)]; exact Ig os))) ?_
 intro W base args ds gs before hval hW _ hcond _ hlaid hshape _
 rw [MakeChecks.laidMetH_plain _ _ _ (by kernel_rfl)] at hlaid
 have hk:=hcond _ rfl
 have hk2:fQ (ds ++ gs)≤1048576:=by
  have:=of_decide_eq_true hk
  rw [tO] at this
  exact this
 have hgs:gs=[]:=by
  obtain ⟨p,q,hA,hV,rfl,hfz,hnd⟩:=hW
  cases gs with
  | nil=>rfl
  | cons g gs=>exact hV.elim
 subst hgs
 rw [List.append_nil] at hk2
 refine F9 (P:=Tryz.prog) (S:=[9,22,27,38,43]) (tb:=4) (by kernel_rfl) (by rw [Tryz.params5]; decide) (by rw [Tryz.params5]; exact of_decide_eq_true (by kernel_rfl)) laidOut (by kernel_rfl) Tryz.underlying4 rfl ?_ (fun qs N h hN=>by rw [Tryz.params5] at h; exact walk qs N h (by omega)) hval hW (Ld hlaid hshape)
 rw [Tryz.params5]
 intro ds hd
 match ds,hd with
 | [d0,d1],_=>rfl
end cachekeyFiles
end Go.Proofs.YtljfgagpnpolhaaGreatDoor
