/- Proved here: the walk of TemplateBinds, at the arguments of the row. -/
import Derived.Test.YtcohpegjnpcgcaaGreatDoorTbWalk3
import Derived.Test.YtcohpegjnpcgcaaGreatDoorTbPlain1
import Derived.Test.YtcohpegjnpcgcaaGreatDoorRows
import Derived.Test.YtcohpegjnpcgcaaGreatDoorCards
import Derived.Test.YtcohpegjnpcgcaaGreatDoorTie
import Derived.WalkKit
import Derived.ProofKit
import Derived.OpenShut
import Derived.JoinedCond
import Derived.Deep.DeepHandedRow
import Derived.Deep.DeepWitnessRowRef
import Derived.Lay
import Derived.SevenTiedAt
import Derived.MakeChecks
set_option linter.unusedVariables false
set_option linter.unusedSimpArgs false
set_option linter.unusedSectionVars false
namespace Go.Proofs.YtcohpegjnpcgcaaGreatDoor
open Go Go.Abs Go.Ft
section
variable [iH]
theorem TK {c:List PV} {N:Nat} (h:Aa Tryz.prog 9 c N):∃ x:Str,c=[.str x]∧(x.length + 1)≤N:=by
 obtain ⟨s,rfl,rfl⟩:=h.abF Tryz.underlying9
 exact ⟨s,rfl,Nat.le_refl _⟩
theorem WJ {c:List PV} {N:Nat} (h:Aa Tryz.prog 3 c N):∃ x:Int,c=[.int .i64 x]∧1≤N:=by
 obtain ⟨n,rfl,hw,rfl⟩:=h.abW Tryz.underlying3
 exact ⟨n,rfl,Nat.le_refl _⟩
theorem abL :∀ {c:List PV} {N:Nat} (h:Aa Tryz.prog 61 c N),∃ x:aD,c=aD.cells x∧(aD.bulk x)≤N:=by
 have key:∀ (M:Nat) {c:List PV},Aa Tryz.prog 61 c M→∃ x:aD,c=aD.cells x∧(aD.bulk x)≤M:=by
  intro M
  induction M using Nat.strongRecOn with
  | _ M ih=>
   intro c h
   obtain ⟨ps,rfl,hNe,hlen,hz⟩:=h.Lf Tryz.underlying61
   match ps,hlen with
   | [p0,p1],_=>
    have hN:=hNe
    simp only [List.map_cons,List.map_nil,List.sum_cons,List.sum_nil] at hN
    have k0:Aa Tryz.prog 3 p0.1 p0.2:=hz _ (List.mem_of_getElem? (i:=0) rfl)
    obtain ⟨x0,c0,b0⟩:=WJ k0
    have k1:Aa Tryz.prog 59 p1.1 p1.2:=hz _ (List.mem_of_getElem? (i:=1) rfl)
    obtain ⟨l1,e1,m1,hl1⟩:=k1.H7 Tryz.underlying59
    have hle1:∀ x∈l1,x.2≤(l1.map (·.2)).sum:=fun x hx=>WT hx
    obtain ⟨Dn,q1,r1⟩:=ES (f:=aD.cells) (μ:=aD.bulk) fun x hx=>ih x.2 (by have:=hle1 x hx; omega) (hl1 x hx)
    obtain ⟨x1,c1,b1⟩:∃ x:List aD,p1.1=[.list (aD.aN x)]∧aD.oO x + 1≤p1.2:=⟨Dn,by rw [e1,q1,aD.aC],by rw [aD.uZ]; omega⟩
    refine ⟨⟨x0,x1⟩,?_,?_⟩
    ·
     simp only [List.map_cons,List.map_nil,List.flatten_cons,List.flatten_nil,c0,c1]
     first | rfl | simp [aD.cells]
    ·
     simp only [List.map_cons,List.map_nil,List.sum_cons,List.sum_nil] at *
     first | (simp only [aD.bulk]; omega) | (rw [aD.tN]; simp only; omega)
 intro c N h
 exact key N h
theorem aaq {c:List PV} {N:Nat} (h:Aa Tryz.prog 4 c N):∃ x:Bool,c=[.bool x]∧1≤N:=by
 obtain ⟨b,rfl,rfl⟩:=h.Yd Tryz.underlying4
 exact ⟨b,rfl,Nat.le_refl _⟩
theorem abN {c:List PV} {N:Nat} (h:Aa Tryz.prog 40 c N):∃ x:List Str,c=[.list (List.map mo x)]∧((List.map (fun z:Str=>(z.length + 1)) x).sum + 1)≤N:=by
 obtain ⟨l,rfl,rfl,hl⟩:=h.H7 Tryz.underlying40
 obtain ⟨xs,h1,h2⟩:=ES (f:=mo) (μ:=fun z:Str=>(z.length + 1)) fun x hx=>TK (hl x hx)
 exact ⟨xs,by rw [h1],by omega⟩
theorem XV :∀ {c:List PV} {N:Nat} (h:Aa Tryz.prog 42 c N),∃ x:ah,c=ah.cells x∧(ah.bulk x)≤N:=by
 have key:∀ (M:Nat) {c:List PV},Aa Tryz.prog 42 c M→∃ x:ah,c=ah.cells x∧(ah.bulk x)≤M:=by
  intro M
  induction M using Nat.strongRecOn with
  | _ M ih=>
   intro c h
   obtain ⟨ps,rfl,hNe,hlen,hz⟩:=h.Lf Tryz.underlying42
   match ps,hlen with
   | [p0,p1,p2,p3,p4,p5],_=>
    have hN:=hNe
    simp only [List.map_cons,List.map_nil,List.sum_cons,List.sum_nil] at hN
    have k0:Aa Tryz.prog 3 p0.1 p0.2:=hz _ (List.mem_of_getElem? (i:=0) rfl)
    obtain ⟨x0,c0,b0⟩:=WJ k0
    have k1:Aa Tryz.prog 4 p1.1 p1.2:=hz _ (List.mem_of_getElem? (i:=1) rfl)
    obtain ⟨x1,c1,b1⟩:=aaq k1
    have k2:Aa Tryz.prog 3 p2.1 p2.2:=hz _ (List.mem_of_getElem? (i:=2) rfl)
    obtain ⟨x2,c2,b2⟩:=WJ k2
    have k3:Aa Tryz.prog 9 p3.1 p3.2:=hz _ (List.mem_of_getElem? (i:=3) rfl)
    obtain ⟨x3,c3,b3⟩:=TK k3
    have k4:Aa Tryz.prog 39 p4.1 p4.2:=hz _ (List.mem_of_getElem? (i:=4) rfl)
    obtain ⟨l4,e4,m4,hl4⟩:=k4.H7 Tryz.underlying39
    have agU:∀ x∈l4,x.2≤(l4.map (·.2)).sum:=fun x hx=>WT hx
    obtain ⟨as4,q4,r4⟩:=ES (f:=ah.cells) (μ:=ah.bulk) fun x hx=>ih x.2 (by have:=agU x hx; omega) (hl4 x hx)
    obtain ⟨x4,c4,b4⟩:∃ x:List ah,p4.1=[.list (ah.aN x)]∧ah.oO x + 1≤p4.2:=⟨as4,by rw [e4,q4,ah.aC],by rw [ah.uZ]; omega⟩
    have k5:Aa Tryz.prog 40 p5.1 p5.2:=hz _ (List.mem_of_getElem? (i:=5) rfl)
    obtain ⟨x5,c5,b5⟩:=abN k5
    refine ⟨⟨x0,x1,x2,x3,x4,x5⟩,?_,?_⟩
    ·
     simp only [List.map_cons,List.map_nil,List.flatten_cons,List.flatten_nil,c0,c1,c2,c3,c4,c5]
     first | rfl | simp [ah.cells]
    ·
     simp only [List.map_cons,List.map_nil,List.sum_cons,List.sum_nil] at *
     first | (simp only [ah.bulk]; omega) | (rw [ah.tN]; simp only; omega)
 intro c N h
 exact key N h
theorem abK {c:List PV} {N:Nat} (h:Aa Tryz.prog 63 c N):∃ x:aQ,c=aQ.cells x∧(aQ.bulk x)≤N:=by
 obtain ⟨ps,rfl,rfl,hlen,hz⟩:=h.Lf Tryz.underlying63
 match ps,hlen with
 | [p0,p1,p2,p3],_=>
  have k0:Aa Tryz.prog 9 p0.1 p0.2:=hz _ (List.mem_of_getElem? (i:=0) rfl)
  obtain ⟨x0,c0,b0⟩:=TK k0
  have k1:Aa Tryz.prog 61 p1.1 p1.2:=hz _ (List.mem_of_getElem? (i:=1) rfl)
  obtain ⟨x1,c1,b1⟩:=abL k1
  have k2:Aa Tryz.prog 4 p2.1 p2.2:=hz _ (List.mem_of_getElem? (i:=2) rfl)
  obtain ⟨x2,c2,b2⟩:=aaq k2
  have k3:Aa Tryz.prog 42 p3.1 p3.2:=hz _ (List.mem_of_getElem? (i:=3) rfl)
  obtain ⟨x3,c3,b3⟩:=XV k3
  refine ⟨⟨x0,x1,x2,x3⟩,?_,?_⟩
  ·
   simp only [List.map_cons,List.map_nil,List.flatten_cons,List.flatten_nil,c0,c1,c2,c3]
   first | rfl | simp [aQ.cells,aD.aG,ah.aG]
  ·
   simp only [List.map_cons,List.map_nil,List.sum_cons,List.sum_nil] at *
   first | (simp only [aQ.bulk]; omega) | (rw [aQ.tN]; simp only; omega)
theorem abP {c:List PV} {N:Nat} (h:Aa Tryz.prog 22 c N):∃ x:List aQ,c=[.list (List.map aQ.cells x)]∧((List.map (fun z:aQ=>(aQ.bulk z)) x).sum + 1)≤N:=by
 obtain ⟨l,rfl,rfl,hl⟩:=h.H7 Tryz.underlying22
 obtain ⟨xs,h1,h2⟩:=ES (f:=aQ.cells) (μ:=fun z:aQ=>(aQ.bulk z)) fun x hx=>abK (hl x hx)
 exact ⟨xs,by rw [h1],by omega⟩
theorem abM {c:List PV} {N:Nat} (h:Aa Tryz.prog 54 c N):∃ x:aA,c=aA.cells x∧(aA.bulk x)≤N:=by
 obtain ⟨ps,rfl,rfl,hlen,hz⟩:=h.Lf Tryz.underlying54
 match ps,hlen with
 | [p0,p1],_=>
  have k0:Aa Tryz.prog 9 p0.1 p0.2:=hz _ (List.mem_of_getElem? (i:=0) rfl)
  obtain ⟨x0,c0,b0⟩:=TK k0
  have k1:Aa Tryz.prog 42 p1.1 p1.2:=hz _ (List.mem_of_getElem? (i:=1) rfl)
  obtain ⟨x1,c1,b1⟩:=XV k1
  refine ⟨⟨x0,x1⟩,?_,?_⟩
  ·
   simp only [List.map_cons,List.map_nil,List.flatten_cons,List.flatten_nil,c0,c1]
   first | rfl | simp [aA.cells,ah.aG]
  ·
   simp only [List.map_cons,List.map_nil,List.sum_cons,List.sum_nil] at *
   first | (simp only [aA.bulk]; omega) | (rw [aA.tN]; simp only; omega)
theorem abO {c:List PV} {N:Nat} (h:Aa Tryz.prog 23 c N):∃ x:List aA,c=[.list (List.map aA.cells x)]∧((List.map (fun z:aA=>(aA.bulk z)) x).sum + 1)≤N:=by
 obtain ⟨l,rfl,rfl,hl⟩:=h.H7 Tryz.underlying23
 obtain ⟨xs,h1,h2⟩:=ES (f:=aA.cells) (μ:=fun z:aA=>(aA.bulk z)) fun x hx=>abM (hl x hx)
 exact ⟨xs,by rw [h1],by omega⟩
end
namespace templateBinds
open Go.ChangeShapes Go.WideShapes Go.ChangeAt Go.RowKit
theorem own :ownKnob Tryz.prog.godebug=none:=by kernel_rfl
theorem laidOut :laidOutB Tryz.prog=true:=by kernel_rfl
mutual
theorem AP {H:Type}:∀ d:DataW H,Rows.uptoBulk d=qx d
 | .lit (.string _)=>by simp only [Rows.uptoBulk,qx]
 | .lit (.bool _)=>by simp only [Rows.uptoBulk,qx]
 | .lit (.int _ _)=>by simp only [Rows.uptoBulk,qx]
 | .lit (.float _ _)=>by simp only [Rows.uptoBulk,qx]
 | .lit .nil=>by simp only [Rows.uptoBulk,qx]
 | .nil=>by simp only [Rows.uptoBulk,qx]
 | .ptr d=>by simp only [Rows.uptoBulk,qx,AP d]
 | .slice a b=>by simp only [Rows.uptoBulk,qx,Jf a,Jf b]
 | .agg a=>by simp only [Rows.uptoBulk,qx,Jf a]
 | .iface _ d=>by simp only [Rows.uptoBulk,qx,AP d]
 | .map a=>by simp only [Rows.uptoBulk,qx,SS a]
 | .held _=>by simp only [Rows.uptoBulk,qx]
theorem Jf {H:Type}:∀ l:List (DataW H),Rows.uptoBulkAll l=nT l
 | []=>by simp only [Rows.uptoBulkAll,nT]
 | d :: r=>by simp only [Rows.uptoBulkAll,nT,AP d,Jf r]
theorem SS {H:Type}:∀ l:List (Lit × DataW H),Rows.uptoBulkEntries l=zl l
 | []=>by simp only [Rows.uptoBulkEntries,zl]
 | x :: r=>by simp only [Rows.uptoBulkEntries,zl,aaU x,SS r]
theorem aaU {H:Type}:∀ x:Lit × DataW H,Rows.uptoBulkEntry x=xF x
 | (.string _,d)=>by simp only [Rows.uptoBulkEntry,xF,AP d]
 | (.bool _,d)=>by simp only [Rows.uptoBulkEntry,xF,AP d]
 | (.int _ _,d)=>by simp only [Rows.uptoBulkEntry,xF,AP d]
 | (.float _ _,d)=>by simp only [Rows.uptoBulkEntry,xF,AP d]
 | (.nil,d)=>by simp only [Rows.uptoBulkEntry,xF,AP d]
end
instance aho :iH:=af6 [0] [6,7] [(1,Lib.pow10Tab.map fun z=>Value.int .u64 z)]
instance evI :zq where
 hD:=id
 max:=fun w m h=>(h.1 0 (by simp)).2
 pow:=fun w m h=>YX (g:=1) (by kernel_rfl) (by decide) fun off=>(h.2.2 (1,Lib.pow10Tab.map fun z=>Value.int .u64 z) (by simp) off).2
 syn:=fun w m h=>by
  obtain ⟨_,u,v,e⟩:=h.2.1 6 (by simp)
  exact ⟨_,e,.inr ⟨_,_,rfl⟩⟩
 rng:=fun w m h=>by
  obtain ⟨_,u,v,e⟩:=h.2.1 7 (by simp)
  exact ⟨_,e,.inr ⟨_,_,rfl⟩⟩
/-- the walk,over any arguments of the parameters' types -/
theorem walk :∀ qs N,Us Tryz.prog [22,23] qs N→N≤1048576→AC Tryz.prog 3 qs [] fun out _=>out=.ret (.bool true):=by
 intro qs N h hN
 obtain ⟨q0,qs0,A0,B0,rfl,e0,t0,g0⟩:=h
 have u0:=t0.WK (by rw [Tryz.underlying22]; simp) (by rw [Tryz.underlying22]; simp)
 obtain ⟨x0,hx0,m0⟩:=abP u0
 simp only [List.cons.injEq,and_true] at hx0
 subst hx0
 obtain ⟨q1,qs1,A1,B1,rfl,e1,t1,g1⟩:=g0
 have u1:=t1.WK (by rw [Tryz.underlying23]; simp) (by rw [Tryz.underlying23]; simp)
 obtain ⟨x1,hx1,m1⟩:=abO u1
 simp only [List.cons.injEq,and_true] at hx1
 subst hx1
 obtain ⟨rfl,e2⟩:=g1
 exact JZ _ _ (LQ x0 x1 (by omega)) rfl
theorem aed {W:World} (hL:laidMet Tryz.prog [("math/bits.deBruijn32tab",Rows.laid_math_bits_deBruijn32tab),("math/bits.deBruijn64tab",Rows.laid_math_bits_deBruijn64tab),("internal/strconv.uint64pow10",Rows.laid_internal_strconv_uint64pow10),("unicode/utf8.acceptRanges",Rows.laid_unicode_utf8_acceptRanges),("strconv.ErrRange",Rows.laid_strconv_ErrRange),("strconv.ErrSyntax",Rows.laid_strconv_ErrSyntax),("unicode/utf8.first",Rows.laid_unicode_utf8_first)] W) (hS:W.ShapedOpen Tryz.prog):iH.G W (xG W):=by
 refine ⟨fun g hg=>?_,fun g hg=>?_,fun p hp=>?_⟩
 ·
  obtain rfl:=List.mem_singleton.1 hg
  obtain ⟨n,hn⟩:=Go.Proofs.cell_of_shapedOpen_int (g:=0) (zero:=#[.int .i64 0]) (t:=3) hS (of_decide_eq_true (by kernel_rfl)) (by kernel_rfl) rfl (by kernel_rfl) (by kernel_rfl) Tryz.underlying3
  exact ⟨Qr hn,n,hn⟩
 ·
  simp only [List.mem_cons,List.not_mem_nil,or_false] at hg
  rcases hg with rfl | rfl
  ·
   obtain ⟨u,v,e⟩:=P7 (g:=6) (t:=169) hL.tail.tail.tail.tail.tail (by kernel_rfl) (by kernel_rfl) (show Tryz.prog.underlying 169=some (.interface (Tryz.prog.methodsAt 169)) by kernel_rfl)
   exact ⟨Qr e,u,v,e⟩
  ·
   obtain ⟨u,v,e⟩:=P7 (g:=7) (t:=169) hL.tail.tail.tail.tail (by kernel_rfl) (by kernel_rfl) (show Tryz.prog.underlying 169=some (.interface (Tryz.prog.methodsAt 169)) by kernel_rfl)
   exact ⟨Qr e,u,v,e⟩
 ·
  obtain rfl:=List.mem_singleton.1 hp
  exact Yq (by kernel_rfl) (Lib.tabIs_of_head (g:=1) (t:=275) (e:=252) (n:=20) (by kernel_rfl) (by kernel_rfl) (by kernel_rfl) (by kernel_rfl) (by kernel_rfl) (by kernel_rfl) (show laidMet Tryz.prog (("internal/strconv.uint64pow10",Lib.tabData .u64 Lib.pow10Tab) :: _) W from hL.tail.tail))
theorem aay (os:Os):laidMet Tryz.prog Rows.templateBindsUptoRow.laid ((World.laidAll Tryz.prog os Rows.templateBindsUptoRow.laid).forCall (fun _ _=>0) ⟨#[],#[.slice none 0 0,.slice none 0 0],[]⟩).memory:=
 laidMet_laidAll _ (by kernel_rfl) (by kernel_rfl)
theorem reads (os:Os) {H:Type} (enc:TypeId × Value→H):∃ places,DataW.whole enc Tryz.prog ((World.laidAll Tryz.prog os Rows.templateBindsUptoRow.laid).forCall (fun _ _=>0) ⟨#[],#[.slice none 0 0,.slice none 0 0],[]⟩).memory Tryz.f3.params.toList Rows.templateBindsSpec.vars false (#[.slice none 0 0,.slice none 0 0]:Array Value).toList 8=some ([.nil,.nil],[],places):=
 ⟨[],by kernel_rfl⟩
set_option maxRecDepth 100000 in
theorem lifted (os:Os) (started:os.Started) (H:Type) (enc:TypeId × Value→H) (F:Stop.Interp):
  ReturnsInHanded {} Tryz.checked os 3 .any ((Rows.OpenSpec.upto Rows.templateBindsSpec).preRow enc Tryz.prog Tryz.f3 Rows.templateBindsUptoRow.domain false Rows.templateBindsUptoRow.laid) (((Rows.OpenSpec.upto Rows.templateBindsSpec).at F).post enc Tryz.prog Tryz.f3 false true false false):=by
 obtain ⟨places,hx⟩:=reads os enc
 refine returnsInHanded_of_row (C:=Tryz.checked) (s:=Rows.OpenSpec.upto Rows.templateBindsSpec) own started (by kernel_rfl) Tryz.func3
  (witness_row_atRef (enc:=enc) (C:=Tryz.checked) false (World.laidAll Tryz.prog os Rows.templateBindsUptoRow.laid) #[.slice none 0 0,.slice none 0 0] (World.laidAll_os _ _ _) (by kernel_rfl) (by kernel_rfl) (by kernel_rfl)
   (OpenSpec.preRow_of_cond 8 hx (by kernel_rfl) (fun k hk=>by cases hk; kernel_rfl) (by kernel_rfl) (by rw [MakeChecks.laidMetH_plain _ _ _ (by kernel_rfl)]; exact aay os))) ?_
 intro W base args ds gs before hval hW _ hcond _ hlaid hshape _
 rw [MakeChecks.laidMetH_plain _ _ _ (by kernel_rfl)] at hlaid
 have hk:=hcond _ rfl
 have hk2:nT (ds ++ gs)≤1048576:=by
  have:=of_decide_eq_true hk
  rw [Jf] at this
  exact this
 have hgs:gs=[]:=by
  obtain ⟨p,q,hA,hV,rfl,hfz,hnd⟩:=hW
  cases gs with
  | nil=>rfl
  | cons g gs=>exact hV.elim
 subst hgs
 rw [List.append_nil] at hk2
 refine YK (P:=Tryz.prog) (S:=[3,4,9,22,23,39,40,42,54,59,61,63]) (tb:=4) (by kernel_rfl) (by rw [Tryz.params3]; decide) (by rw [Tryz.params3]; exact of_decide_eq_true (by kernel_rfl)) laidOut (by kernel_rfl) Tryz.underlying4 rfl ?_ (fun qs N h hN=>by rw [Tryz.params3] at h; exact walk qs N h (by omega)) hval hW (aed hlaid hshape)
 rw [Tryz.params3]
 intro ds hd
 match ds,hd with
 | [d0,d1],_=>rfl
end templateBinds
end Go.Proofs.YtcohpegjnpcgcaaGreatDoor
