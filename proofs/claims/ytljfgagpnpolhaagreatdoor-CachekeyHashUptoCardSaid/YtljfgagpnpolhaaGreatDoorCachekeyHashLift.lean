/- Proved here: the walk of CachekeyHash, at the arguments of the row. -/
import Derived.Test.YtljfgagpnpolhaaGreatDoorKhWalk1
import Derived.Test.YtljfgagpnpolhaaGreatDoorKhPlain1
import Derived.Test.YtljfgagpnpolhaaGreatDoorRows
import Derived.Test.YtljfgagpnpolhaaGreatDoorCards
import Derived.Test.YtljfgagpnpolhaaGreatDoorTie
import Derived.WalkKit
import Derived.ProofKit
import Derived.OpenShut
import Derived.JoinedCond
import Derived.Deep.DeepHandedRow
import Derived.Deep.DeepWitnessRowRef
import Derived.Lay
import Derived.SevenTiedAt
import Derived.MakeChecks
set_option linter.unusedVariables false
set_option linter.unusedSimpArgs false
set_option linter.unusedSectionVars false
namespace Go.Proofs.YtljfgagpnpolhaaGreatDoor
open Go Go.Abs Go.Ft
section
variable [dN]
theorem KM {c:List PV} {N:Nat} (h:wB Tryz.prog 9 c N):∃ x:Str,c=[.str x]∧(x.length + 1)≤N:=by
 obtain ⟨s,rfl,rfl⟩:=h.Mg Tryz.underlying9
 exact ⟨s,rfl,Nat.le_refl _⟩
theorem Ml {c:List PV} {N:Nat} (h:wB Tryz.prog 38 c N):∃ x:BitVec 64,c=[.int .u64 (x.toNat:Int)]∧1≤N:=by
 obtain ⟨n,rfl,hw,rfl⟩:=h.Mw Tryz.underlying38
 obtain ⟨c,rfl⟩:=wf_u64 hw
 exact ⟨c,rfl,Nat.le_refl _⟩
theorem Mk {c:List PV} {N:Nat} (h:wB Tryz.prog 43 c N):∃ x:aB,c=aB.cells x∧(aB.bulk x)≤N:=by
 obtain ⟨ps,rfl,rfl,hlen,hz⟩:=h.Im Tryz.underlying43
 match ps,hlen with
 | [p0,p1],_=>
  have k0:wB Tryz.prog 9 p0.1 p0.2:=hz _ (List.mem_of_getElem? (i:=0) rfl)
  obtain ⟨x0,c0,b0⟩:=KM k0
  have k1:wB Tryz.prog 38 p1.1 p1.2:=hz _ (List.mem_of_getElem? (i:=1) rfl)
  obtain ⟨x1,c1,b1⟩:=Ml k1
  refine ⟨⟨x0,x1⟩,?_,?_⟩
  ·
   simp only [List.map_cons,List.map_nil,List.flatten_cons,List.flatten_nil,c0,c1]
   first | rfl | simp [aB.cells]
  ·
   simp only [List.map_cons,List.map_nil,List.sum_cons,List.sum_nil] at *
   first | (simp only [aB.bulk]; omega) | (rw [aB.I6]; simp only; omega)
theorem Mq {c:List PV} {N:Nat} (h:wB Tryz.prog 27 c N):∃ x:List aB,c=[.list (List.map aB.cells x)]∧((List.map (fun z:aB=>(aB.bulk z)) x).sum + 1)≤N:=by
 obtain ⟨l,rfl,rfl,hl⟩:=h.AV Tryz.underlying27
 obtain ⟨xs,h1,h2⟩:=BH (f:=aB.cells) (μ:=fun z:aB=>(aB.bulk z)) fun x hx=>Mk (hl x hx)
 exact ⟨xs,by rw [h1],by omega⟩
theorem Mr {c:List PV} {N:Nat} (h:wB Tryz.prog 22 c N):∃ x:List Str,c=[.list (List.map mg x)]∧((List.map (fun z:Str=>(z.length + 1)) x).sum + 1)≤N:=by
 obtain ⟨l,rfl,rfl,hl⟩:=h.AV Tryz.underlying22
 obtain ⟨xs,h1,h2⟩:=BH (f:=mg) (μ:=fun z:Str=>(z.length + 1)) fun x hx=>KM (hl x hx)
 exact ⟨xs,by rw [h1],by omega⟩
end
namespace cachekeyHash
open Go.ChangeShapes Go.WideShapes Go.ChangeAt Go.RowKit
theorem own :ownKnob Tryz.prog.godebug=none:=by kernel_rfl
theorem laidOut :laidOutB Tryz.prog=true:=by kernel_rfl
mutual
theorem ow {H:Type}:∀ d:DataW H,Rows.uptoBulk d=iZ d
 | .lit (.string _)=>by simp only [Rows.uptoBulk,iZ]
 | .lit (.bool _)=>by simp only [Rows.uptoBulk,iZ]
 | .lit (.int _ _)=>by simp only [Rows.uptoBulk,iZ]
 | .lit (.float _ _)=>by simp only [Rows.uptoBulk,iZ]
 | .lit .nil=>by simp only [Rows.uptoBulk,iZ]
 | .nil=>by simp only [Rows.uptoBulk,iZ]
 | .ptr d=>by simp only [Rows.uptoBulk,iZ,ow d]
 | .slice a b=>by simp only [Rows.uptoBulk,iZ,vD a,vD b]
 | .agg a=>by simp only [Rows.uptoBulk,iZ,vD a]
 | .iface _ d=>by simp only [Rows.uptoBulk,iZ,ow d]
 | .map a=>by simp only [Rows.uptoBulk,iZ,DW a]
 | .held _=>by simp only [Rows.uptoBulk,iZ]
theorem vD {H:Type}:∀ l:List (DataW H),Rows.uptoBulkAll l=gU l
 | []=>by simp only [Rows.uptoBulkAll,gU]
 | d :: r=>by simp only [Rows.uptoBulkAll,gU,ow d,vD r]
theorem DW {H:Type}:∀ l:List (Lit × DataW H),Rows.uptoBulkEntries l=nE l
 | []=>by simp only [Rows.uptoBulkEntries,nE]
 | x :: r=>by simp only [Rows.uptoBulkEntries,nE,Lg x,DW r]
theorem Lg {H:Type}:∀ x:Lit × DataW H,Rows.uptoBulkEntry x=lY x
 | (.string _,d)=>by simp only [Rows.uptoBulkEntry,lY,ow d]
 | (.bool _,d)=>by simp only [Rows.uptoBulkEntry,lY,ow d]
 | (.int _ _,d)=>by simp only [Rows.uptoBulkEntry,lY,ow d]
 | (.float _ _,d)=>by simp only [Rows.uptoBulkEntry,lY,ow d]
 | (.nil,d)=>by simp only [Rows.uptoBulkEntry,lY,ow d]
end
instance RD :dN:=Qm [] [] []
instance R9 :R5 where
 hD:=id
/-- the walk,over any arguments of the parameters' types -/
theorem walk :∀ qs N,E9 Tryz.prog [27,22] qs N→N≤1048576→AC Tryz.prog 4 qs [] fun out _=>out=.ret (.bool true):=by
 intro qs N h hN
 obtain ⟨q0,R7,A0,B0,rfl,e0,t0,g0⟩:=h
 have u0:=t0.Jo (by rw [Tryz.underlying27]; simp) (by rw [Tryz.underlying27]; simp)
 obtain ⟨x0,hx0,m0⟩:=Mq u0
 simp only [List.cons.injEq,and_true] at hx0
 subst hx0
 obtain ⟨q1,R6,A1,B1,rfl,e1,t1,g1⟩:=g0
 have u1:=t1.Jo (by rw [Tryz.underlying22]; simp) (by rw [Tryz.underlying22]; simp)
 obtain ⟨x1,hx1,m1⟩:=Mr u1
 simp only [List.cons.injEq,and_true] at hx1
 subst hx1
 obtain ⟨rfl,e2⟩:=g1
 exact xu _ _ (ze x0 x1 (by omega)) rfl
theorem OB {W:World} (hL:laidMet Tryz.prog [("math/bits.deBruijn32tab",Rows.laid_math_bits_deBruijn32tab),("math/bits.deBruijn64tab",Rows.laid_math_bits_deBruijn64tab),("internal/strconv.uint64pow10",Rows.laid_internal_strconv_uint64pow10),("unicode/utf8.acceptRanges",Rows.laid_unicode_utf8_acceptRanges),("strconv.ErrRange",Rows.laid_strconv_ErrRange),("strconv.ErrSyntax",Rows.laid_strconv_ErrSyntax),("unicode/utf8.first",Rows.laid_unicode_utf8_first)] W) (hS:W.ShapedOpen Tryz.prog):dN.G W (nS W):=by
 refine ⟨fun g hg=>?_,fun g hg=>?_,fun p hp=>?_⟩
 · cases hg
 · cases hg
 · cases hp
theorem KU (os:Os):laidMet Tryz.prog Rows.cachekeyHashUptoRow.laid ((World.laidAll Tryz.prog os Rows.cachekeyHashUptoRow.laid).forCall (fun _ _=>0) ⟨#[],#[.slice none 0 0,.slice none 0 0],[]⟩).memory:=
 laidMet_laidAll _ (by kernel_rfl) (by kernel_rfl)
theorem reads (os:Os) {H:Type} (enc:TypeId × Value→H):∃ places,DataW.whole enc Tryz.prog ((World.laidAll Tryz.prog os Rows.cachekeyHashUptoRow.laid).forCall (fun _ _=>0) ⟨#[],#[.slice none 0 0,.slice none 0 0],[]⟩).memory Tryz.f4.params.toList Rows.cachekeyHashSpec.vars false (#[.slice none 0 0,.slice none 0 0]:Array Value).toList 8=some ([.nil,.nil],[],places):=
 ⟨[],by kernel_rfl⟩
set_option maxRecDepth 100000 in
theorem lifted (os:Os) (started:os.Started) (H:Type) (enc:TypeId × Value→H) (F:Stop.Interp):
  ReturnsInHanded {} Tryz.checked os 4 .any ((Rows.OpenSpec.upto Rows.cachekeyHashSpec).preRow enc Tryz.prog Tryz.f4 Rows.cachekeyHashUptoRow.domain false Rows.cachekeyHashUptoRow.laid) (((Rows.OpenSpec.upto Rows.cachekeyHashSpec).at F).post enc Tryz.prog Tryz.f4 false true false false):=by
 obtain ⟨places,hx⟩:=reads os enc
 refine returnsInHanded_of_row (C:=Tryz.checked) (s:=Rows.OpenSpec.upto Rows.cachekeyHashSpec) own started (by kernel_rfl) Tryz.func4
  (witness_row_atRef (enc:=enc) (C:=Tryz.checked) false (World.laidAll Tryz.prog os Rows.cachekeyHashUptoRow.laid) #[.slice none 0 0,.slice none 0 0] (World.laidAll_os _ _ _) (by kernel_rfl) (by kernel_rfl) (by kernel_rfl)
   (OpenSpec.preRow_of_cond 8 hx (by kernel_rfl) (fun k hk=>by cases hk; kernel_rfl) (by kernel_rfl) (by rw [MakeChecks.laidMetH_plain _ _ _ (by kernel_rfl)]; exact KU os))) ?_
 intro W base args ds gs before hval hW _ hcond _ hlaid hshape _
 rw [MakeChecks.laidMetH_plain _ _ _ (by kernel_rfl)] at hlaid
 have hk:=hcond _ rfl
 have hk2:gU (ds ++ gs)≤1048576:=by
  have:=of_decide_eq_true hk
  rw [vD] at this
  exact this
 have hgs:gs=[]:=by
  obtain ⟨p,q,hA,hV,rfl,hfz,hnd⟩:=hW
  cases gs with
  | nil=>rfl
  | cons g gs=>exact hV.elim
 subst hgs
 rw [List.append_nil] at hk2
 refine Ju (P:=Tryz.prog) (S:=[9,22,27,38,43]) (tb:=4) (by kernel_rfl) (by rw [Tryz.params4]; decide) (by rw [Tryz.params4]; exact of_decide_eq_true (by kernel_rfl)) laidOut (by kernel_rfl) Tryz.underlying4 rfl ?_ (fun qs N h hN=>by rw [Tryz.params4] at h; exact walk qs N h (by omega)) hval hW (OB hlaid hshape)
 rw [Tryz.params4]
 intro ds hd
 match ds,hd with
 | [d0,d1],_=>rfl
end cachekeyHash
end Go.Proofs.YtljfgagpnpolhaaGreatDoor
