/- Proved here: the walk of CheckSound, at the arguments of the row. -/
import Derived.Test.YtangbjfgdmopoaaGreatDoorCsWalk3
import Derived.Test.YtangbjfgdmopoaaGreatDoorCsPlain3
import Derived.Test.YtangbjfgdmopoaaGreatDoorRows
import Derived.Test.YtangbjfgdmopoaaGreatDoorCards
import Derived.Test.YtangbjfgdmopoaaGreatDoorTie
import Derived.WalkKit
import Derived.ProofKit
import Derived.OpenShut
import Derived.JoinedCond
import Derived.Deep.DeepHandedRow
import Derived.Deep.DeepWitnessRowRef
import Derived.Lay
import Derived.SevenTiedAt
import Derived.MakeChecks
set_option linter.unusedVariables false
set_option linter.unusedSimpArgs false
set_option linter.unusedSectionVars false
namespace Go.Proofs.YtangbjfgdmopoaaGreatDoor
open Go Go.Abs Go.Ft
section
variable [iw]
theorem o_ {c:List PV} {N:Nat} (h:jM Tryz.prog 3 c N):∃ x:Int,c=[.int .i64 x]∧1≤N:=by
 obtain ⟨n,rfl,hw,rfl⟩:=h.V_ Tryz.underlying3
 exact ⟨n,rfl,Nat.le_refl _⟩
theorem l9 {c:List PV} {N:Nat} (h:jM Tryz.prog 9 c N):∃ x:Str,c=[.str x]∧(x.length + 1)≤N:=by
 obtain ⟨s,rfl,rfl⟩:=h.VA Tryz.underlying9
 exact ⟨s,rfl,Nat.le_refl _⟩
theorem GA {c:List PV} {N:Nat} (h:jM Tryz.prog 4 c N):∃ x:Bool,c=[.bool x]∧1≤N:=by
 obtain ⟨b,rfl,rfl⟩:=h.OH Tryz.underlying4
 exact ⟨b,rfl,Nat.le_refl _⟩
theorem tF {c:List PV} {N:Nat} (h:jM Tryz.prog 23 c N):∃ x:List Str,c=[.list (List.map ko x)]∧((List.map (fun z:Str=>(z.length + 1)) x).sum + 1)≤N:=by
 obtain ⟨l,rfl,rfl,hl⟩:=h.oG Tryz.underlying23
 obtain ⟨xs,h1,h2⟩:=kJ (f:=ko) (μ:=fun z:Str=>(z.length + 1)) fun x hx=>l9 (hl x hx)
 exact ⟨xs,by rw [h1],by omega⟩
theorem tC :∀ {c:List PV} {N:Nat} (h:jM Tryz.prog 25 c N),∃ x:ah,c=ah.cells x∧(ah.bulk x)≤N:=by
 have key:∀ (M:Nat) {c:List PV},jM Tryz.prog 25 c M→∃ x:ah,c=ah.cells x∧(ah.bulk x)≤M:=by
  intro M
  induction M using Nat.strongRecOn with
  | _ M ih=>
   intro c h
   obtain ⟨ps,rfl,hNe,hlen,hz⟩:=h.qD Tryz.underlying25
   match ps,hlen with
   | [p0,p1,p2,p3,p4,p5],_=>
    have hN:=hNe
    simp only [List.map_cons,List.map_nil,List.sum_cons,List.sum_nil] at hN
    have k0:jM Tryz.prog 3 p0.1 p0.2:=hz _ (List.mem_of_getElem? (i:=0) rfl)
    obtain ⟨x0,c0,b0⟩:=o_ k0
    have k1:jM Tryz.prog 4 p1.1 p1.2:=hz _ (List.mem_of_getElem? (i:=1) rfl)
    obtain ⟨x1,c1,b1⟩:=GA k1
    have k2:jM Tryz.prog 3 p2.1 p2.2:=hz _ (List.mem_of_getElem? (i:=2) rfl)
    obtain ⟨x2,c2,b2⟩:=o_ k2
    have k3:jM Tryz.prog 9 p3.1 p3.2:=hz _ (List.mem_of_getElem? (i:=3) rfl)
    obtain ⟨x3,c3,b3⟩:=l9 k3
    have k4:jM Tryz.prog 22 p4.1 p4.2:=hz _ (List.mem_of_getElem? (i:=4) rfl)
    obtain ⟨l4,e4,m4,hl4⟩:=k4.oG Tryz.underlying22
    have Wd:∀ x∈l4,x.2≤(l4.map (·.2)).sum:=fun x hx=>Dz hx
    obtain ⟨as4,q4,r4⟩:=kJ (f:=ah.cells) (μ:=ah.bulk) fun x hx=>ih x.2 (by have:=Wd x hx; omega) (hl4 x hx)
    obtain ⟨x4,c4,b4⟩:∃ x:List ah,p4.1=[.list (ah.bn x)]∧ah.lZ x + 1≤p4.2:=⟨as4,by rw [e4,q4,ah.aB],by rw [ah.iN]; omega⟩
    have k5:jM Tryz.prog 23 p5.1 p5.2:=hz _ (List.mem_of_getElem? (i:=5) rfl)
    obtain ⟨x5,c5,b5⟩:=tF k5
    refine ⟨⟨x0,x1,x2,x3,x4,x5⟩,?_,?_⟩
    ·
     simp only [List.map_cons,List.map_nil,List.flatten_cons,List.flatten_nil,c0,c1,c2,c3,c4,c5]
     first | rfl | simp [ah.cells]
    ·
     simp only [List.map_cons,List.map_nil,List.sum_cons,List.sum_nil] at *
     first | (simp only [ah.bulk]; omega) | (rw [ah.iC]; simp only; omega)
 intro c N h
 exact key N h
theorem AV :∀ {c:List PV} {N:Nat} (h:jM Tryz.prog 28 c N),∃ x:aj,c=aj.cells x∧(aj.bulk x)≤N:=by
 have key:∀ (M:Nat) {c:List PV},jM Tryz.prog 28 c M→∃ x:aj,c=aj.cells x∧(aj.bulk x)≤M:=by
  intro M
  induction M using Nat.strongRecOn with
  | _ M ih=>
   intro c h
   obtain ⟨ps,rfl,hNe,hlen,hz⟩:=h.qD Tryz.underlying28
   match ps,hlen with
   | [p0,p1,p2,p3,p4],_=>
    have hN:=hNe
    simp only [List.map_cons,List.map_nil,List.sum_cons,List.sum_nil] at hN
    have k0:jM Tryz.prog 3 p0.1 p0.2:=hz _ (List.mem_of_getElem? (i:=0) rfl)
    obtain ⟨x0,c0,b0⟩:=o_ k0
    have k1:jM Tryz.prog 9 p1.1 p1.2:=hz _ (List.mem_of_getElem? (i:=1) rfl)
    obtain ⟨x1,c1,b1⟩:=l9 k1
    have k2:jM Tryz.prog 25 p2.1 p2.2:=hz _ (List.mem_of_getElem? (i:=2) rfl)
    obtain ⟨x2,c2,b2⟩:=tC k2
    have k3:jM Tryz.prog 26 p3.1 p3.2:=hz _ (List.mem_of_getElem? (i:=3) rfl)
    obtain ⟨l3,e3,m3,hl3⟩:=k3.oG Tryz.underlying26
    have hle3:∀ x∈l3,x.2≤(l3.map (·.2)).sum:=fun x hx=>Dz hx
    obtain ⟨as3,q3,r3⟩:=kJ (f:=aj.cells) (μ:=aj.bulk) fun x hx=>ih x.2 (by have:=hle3 x hx; omega) (hl3 x hx)
    obtain ⟨x3,c3,b3⟩:∃ x:List aj,p3.1=[.list (aj.bn x)]∧aj.lZ x + 1≤p3.2:=⟨as3,by rw [e3,q3,aj.aB],by rw [aj.iN]; omega⟩
    have k4:jM Tryz.prog 23 p4.1 p4.2:=hz _ (List.mem_of_getElem? (i:=4) rfl)
    obtain ⟨x4,c4,b4⟩:=tF k4
    refine ⟨⟨x0,x1,x2,x3,x4⟩,?_,?_⟩
    ·
     simp only [List.map_cons,List.map_nil,List.flatten_cons,List.flatten_nil,c0,c1,c2,c3,c4]
     first | rfl | simp [aj.cells,ah.aG]
    ·
     simp only [List.map_cons,List.map_nil,List.sum_cons,List.sum_nil] at *
     first | (simp only [aj.bulk]; omega) | (rw [aj.iC]; simp only; omega)
 intro c N h
 exact key N h
theorem asP {c:List PV} {N:Nat} (h:jM Tryz.prog 49 c N):∃ x:av,c=av.cells x∧(av.bulk x)≤N:=by
 obtain ⟨ps,rfl,rfl,hlen,hz⟩:=h.qD Tryz.underlying49
 match ps,hlen with
 | [p0,p1],_=>
  have k0:jM Tryz.prog 9 p0.1 p0.2:=hz _ (List.mem_of_getElem? (i:=0) rfl)
  obtain ⟨x0,c0,b0⟩:=l9 k0
  have k1:jM Tryz.prog 25 p1.1 p1.2:=hz _ (List.mem_of_getElem? (i:=1) rfl)
  obtain ⟨x1,c1,b1⟩:=tC k1
  refine ⟨⟨x0,x1⟩,?_,?_⟩
  ·
   simp only [List.map_cons,List.map_nil,List.flatten_cons,List.flatten_nil,c0,c1]
   first | rfl | simp [av.cells,ah.aG]
  ·
   simp only [List.map_cons,List.map_nil,List.sum_cons,List.sum_nil] at *
   first | (simp only [av.bulk]; omega) | (rw [av.iC]; simp only; omega)
theorem AU {c:List PV} {N:Nat} (h:jM Tryz.prog 29 c N):∃ x:List av,c=[.list (List.map av.cells x)]∧((List.map (fun z:av=>(av.bulk z)) x).sum + 1)≤N:=by
 obtain ⟨l,rfl,rfl,hl⟩:=h.oG Tryz.underlying29
 obtain ⟨xs,h1,h2⟩:=kJ (f:=av.cells) (μ:=fun z:av=>(av.bulk z)) fun x hx=>asP (hl x hx)
 exact ⟨xs,by rw [h1],by omega⟩
theorem asQ :∀ {c:List PV} {N:Nat} (h:jM Tryz.prog 37 c N),∃ x:b_,c=b_.cells x∧(b_.bulk x)≤N:=by
 have key:∀ (M:Nat) {c:List PV},jM Tryz.prog 37 c M→∃ x:b_,c=b_.cells x∧(b_.bulk x)≤M:=by
  intro M
  induction M using Nat.strongRecOn with
  | _ M ih=>
   intro c h
   obtain ⟨ps,rfl,hNe,hlen,hz⟩:=h.qD Tryz.underlying37
   match ps,hlen with
   | [p0,p1],_=>
    have hN:=hNe
    simp only [List.map_cons,List.map_nil,List.sum_cons,List.sum_nil] at hN
    have k0:jM Tryz.prog 3 p0.1 p0.2:=hz _ (List.mem_of_getElem? (i:=0) rfl)
    obtain ⟨x0,c0,b0⟩:=o_ k0
    have k1:jM Tryz.prog 30 p1.1 p1.2:=hz _ (List.mem_of_getElem? (i:=1) rfl)
    obtain ⟨l1,e1,m1,hl1⟩:=k1.oG Tryz.underlying30
    have hle1:∀ x∈l1,x.2≤(l1.map (·.2)).sum:=fun x hx=>Dz hx
    obtain ⟨EY,q1,r1⟩:=kJ (f:=b_.cells) (μ:=b_.bulk) fun x hx=>ih x.2 (by have:=hle1 x hx; omega) (hl1 x hx)
    obtain ⟨x1,c1,b1⟩:∃ x:List b_,p1.1=[.list (b_.bn x)]∧b_.lZ x + 1≤p1.2:=⟨EY,by rw [e1,q1,b_.aB],by rw [b_.iN]; omega⟩
    refine ⟨⟨x0,x1⟩,?_,?_⟩
    ·
     simp only [List.map_cons,List.map_nil,List.flatten_cons,List.flatten_nil,c0,c1]
     first | rfl | simp [b_.cells]
    ·
     simp only [List.map_cons,List.map_nil,List.sum_cons,List.sum_nil] at *
     first | (simp only [b_.bulk]; omega) | (rw [b_.iC]; simp only; omega)
 intro c N h
 exact key N h
theorem asR {c:List PV} {N:Nat} (h:jM Tryz.prog 30 c N):∃ x:List b_,c=[.list (b_.bn x)]∧(b_.lZ x + 1)≤N:=by
 obtain ⟨l,e0,m0,hl⟩:=h.oG Tryz.underlying30
 obtain ⟨xs,q,r⟩:=kJ (f:=b_.cells) (μ:=b_.bulk) fun x hx=>asQ (hl x hx)
 exact ⟨xs,by rw [e0,q,b_.aB],by rw [b_.iN]; omega⟩
end

namespace checkSound
open Go.ChangeShapes Go.WideShapes Go.ChangeAt Go.RowKit

theorem own :ownKnob Tryz.prog.godebug=none:=by kernel_rfl
theorem laidOut :laidOutB Tryz.prog=true:=by kernel_rfl

mutual
theorem cZ {H:Type}:∀ d:DataW H,Rows.uptoBulk d=dS d
 | .lit (.string _)=>by simp only [Rows.uptoBulk,dS]
 | .lit (.bool _)=>by simp only [Rows.uptoBulk,dS]
 | .lit (.int _ _)=>by simp only [Rows.uptoBulk,dS]
 | .lit (.float _ _)=>by simp only [Rows.uptoBulk,dS]
 | .lit .nil=>by simp only [Rows.uptoBulk,dS]
 | .nil=>by simp only [Rows.uptoBulk,dS]
 | .ptr d=>by simp only [Rows.uptoBulk,dS,cZ d]
 | .slice a b=>by simp only [Rows.uptoBulk,dS,fO a,fO b]
 | .agg a=>by simp only [Rows.uptoBulk,dS,fO a]
 | .iface _ d=>by simp only [Rows.uptoBulk,dS,cZ d]
 | .map a=>by simp only [Rows.uptoBulk,dS,jL a]
 | .held _=>by simp only [Rows.uptoBulk,dS]
theorem fO {H:Type}:∀ l:List (DataW H),Rows.uptoBulkAll l=fP l
 | []=>by simp only [Rows.uptoBulkAll,fP]
 | d :: r=>by simp only [Rows.uptoBulkAll,fP,cZ d,fO r]
theorem jL {H:Type}:∀ l:List (Lit × DataW H),Rows.uptoBulkEntries l=fU l
 | []=>by simp only [Rows.uptoBulkEntries,fU]
 | x :: r=>by simp only [Rows.uptoBulkEntries,fU,qZ x,jL r]
theorem qZ {H:Type}:∀ x:Lit × DataW H,Rows.uptoBulkEntry x=dG x
 | (.string _,d)=>by simp only [Rows.uptoBulkEntry,dG,cZ d]
 | (.bool _,d)=>by simp only [Rows.uptoBulkEntry,dG,cZ d]
 | (.int _ _,d)=>by simp only [Rows.uptoBulkEntry,dG,cZ d]
 | (.float _ _,d)=>by simp only [Rows.uptoBulkEntry,dG,cZ d]
 | (.nil,d)=>by simp only [Rows.uptoBulkEntry,dG,cZ d]
end

instance UJ :iw:=Rb [2] [0,1] [(3,Lib.pow10Tab.map fun z=>Value.int .u64 z)]
instance evI :Ay where
 hD:=id
 max:=fun w m h=>(h.1 2 (by simp)).2
 pow:=fun w m h=>Aq (g:=3) (by kernel_rfl) (by decide) fun off=>(h.2.2 (3,Lib.pow10Tab.map fun z=>Value.int .u64 z) (by simp) off).2
 syn:=fun w m h=>by
  obtain ⟨_,u,v,e⟩:=h.2.1 0 (by simp)
  exact ⟨_,e,.inr ⟨_,_,rfl⟩⟩
 rng:=fun w m h=>by
  obtain ⟨_,u,v,e⟩:=h.2.1 1 (by simp)
  exact ⟨_,e,.inr ⟨_,_,rfl⟩⟩
/-- the walk,over any arguments of the parameters' types -/
theorem walk :∀ qs N,Fx Tryz.prog [28,29,30] qs N→N≤1048576→AC Tryz.prog 3 qs [] fun out _=>out=.ret (.bool true):=by
 intro qs N h hN
 obtain ⟨q0,qs0,A0,B0,rfl,e0,t0,g0⟩:=h
 obtain ⟨cs0,rfl,u0⟩:=t0.Zc ⟨_,Tryz.underlying28⟩
 obtain ⟨x0,rfl,m0⟩:=AV u0
 rw [aj.aG]
 obtain ⟨q1,qs1,A1,B1,rfl,e1,t1,g1⟩:=g0
 have u1:=t1.KX (by rw [Tryz.underlying29]; simp) (by rw [Tryz.underlying29]; simp)
 obtain ⟨x1,hx1,m1⟩:=AU u1
 simp only [List.cons.injEq,and_true] at hx1
 subst hx1
 obtain ⟨q2,qs2,A2,B2,rfl,e2,t2,g2⟩:=g1
 have u2:=t2.KX (by rw [Tryz.underlying30]; simp) (by rw [Tryz.underlying30]; simp)
 obtain ⟨x2,hx2,m2⟩:=asR u2
 simp only [List.cons.injEq,and_true] at hx2
 subst hx2
 obtain ⟨rfl,e3⟩:=g2
 exact an1 _ _ _ (aow x0 x1 x2 (by omega)) rfl

theorem Ae {W:World} (hL:laidMet Tryz.prog [("math/bits.deBruijn32tab",Rows.laid_math_bits_deBruijn32tab),("math/bits.deBruijn64tab",Rows.laid_math_bits_deBruijn64tab),("internal/strconv.uint64pow10",Rows.laid_internal_strconv_uint64pow10),("unicode/utf8.acceptRanges",Rows.laid_unicode_utf8_acceptRanges),("strconv.ErrRange",Rows.laid_strconv_ErrRange),("strconv.ErrSyntax",Rows.laid_strconv_ErrSyntax),("unicode/utf8.first",Rows.laid_unicode_utf8_first)] W) (hS:W.ShapedOpen Tryz.prog):iw.G W (qA W):=by
 refine ⟨fun g hg=>?_,fun g hg=>?_,fun p hp=>?_⟩
 ·
  obtain rfl:=List.mem_singleton.1 hg
  obtain ⟨n,hn⟩:=Go.Proofs.cell_of_shapedOpen_int (g:=2) (zero:=#[.int .i64 0]) (t:=3) hS (of_decide_eq_true (by kernel_rfl)) (by kernel_rfl) rfl (by kernel_rfl) (by kernel_rfl) Tryz.underlying3
  exact ⟨kM hn,n,hn⟩
 ·
  simp only [List.mem_cons,List.not_mem_nil,or_false] at hg
  rcases hg with rfl | rfl
  ·
   obtain ⟨u,v,e⟩:=lK (g:=0) (t:=186) hL.tail.tail.tail.tail.tail (by kernel_rfl) (by kernel_rfl) (show Tryz.prog.underlying 186=some (.interface (Tryz.prog.methodsAt 186)) by kernel_rfl)
   exact ⟨kM e,u,v,e⟩
  ·
   obtain ⟨u,v,e⟩:=lK (g:=1) (t:=186) hL.tail.tail.tail.tail (by kernel_rfl) (by kernel_rfl) (show Tryz.prog.underlying 186=some (.interface (Tryz.prog.methodsAt 186)) by kernel_rfl)
   exact ⟨kM e,u,v,e⟩
 ·
  obtain rfl:=List.mem_singleton.1 hp
  exact zM (by kernel_rfl) (Lib.tabIs_of_head (g:=3) (t:=282) (e:=201) (n:=20) (by kernel_rfl) (by kernel_rfl) (by kernel_rfl) (by kernel_rfl) (by kernel_rfl) (by kernel_rfl) (show laidMet Tryz.prog (("internal/strconv.uint64pow10",Lib.tabData .u64 Lib.pow10Tab) :: _) W from hL.tail.tail))
theorem qR (os:Os):laidMet Tryz.prog Rows.checkSoundUptoRow.laid ((World.laidAll Tryz.prog os Rows.checkSoundUptoRow.laid).forCall (fun _ _=>0) ⟨#[],#[.agg #[.int .i64 0,.string ⟨#[]⟩,.int .i64 0,.bool false,.int .i64 0,.string ⟨#[]⟩,.slice none 0 0,.slice none 0 0,.slice none 0 0,.slice none 0 0],.slice none 0 0,.slice none 0 0],[]⟩).memory:=
 laidMet_laidAll _ (by kernel_rfl) (by kernel_rfl)
theorem reads (os:Os) {H:Type} (enc:TypeId × Value→H):∃ places,DataW.whole enc Tryz.prog ((World.laidAll Tryz.prog os Rows.checkSoundUptoRow.laid).forCall (fun _ _=>0) ⟨#[],#[.agg #[.int .i64 0,.string ⟨#[]⟩,.int .i64 0,.bool false,.int .i64 0,.string ⟨#[]⟩,.slice none 0 0,.slice none 0 0,.slice none 0 0,.slice none 0 0],.slice none 0 0,.slice none 0 0],[]⟩).memory Tryz.f3.params.toList Rows.checkSoundSpec.vars false (#[.agg #[.int .i64 0,.string ⟨#[]⟩,.int .i64 0,.bool false,.int .i64 0,.string ⟨#[]⟩,.slice none 0 0,.slice none 0 0,.slice none 0 0,.slice none 0 0],.slice none 0 0,.slice none 0 0]:Array Value).toList 8=some ([.agg [.lit (.int .i64 0),.lit (.string []),.agg [.lit (.int .i64 0),.lit (.bool false),.lit (.int .i64 0),.lit (.string []),.nil,.nil],.nil,.nil],.nil,.nil],[],places):=
 ⟨[],by kernel_rfl⟩

set_option maxRecDepth 100000 in
theorem lifted (os:Os) (started:os.Started) (H:Type) (enc:TypeId × Value→H) (F:Stop.Interp):
  ReturnsInHanded {} Tryz.checked os 3 .any ((Rows.OpenSpec.upto Rows.checkSoundSpec).preRow enc Tryz.prog Tryz.f3 Rows.checkSoundUptoRow.domain false Rows.checkSoundUptoRow.laid) (((Rows.OpenSpec.upto Rows.checkSoundSpec).at F).post enc Tryz.prog Tryz.f3 false true false false):=by
 obtain ⟨places,hx⟩:=reads os enc
 refine returnsInHanded_of_row (C:=Tryz.checked) (s:=Rows.OpenSpec.upto Rows.checkSoundSpec) own started (by kernel_rfl) Tryz.func3
  (witness_row_atRef (enc:=enc) (C:=Tryz.checked) false (World.laidAll Tryz.prog os Rows.checkSoundUptoRow.laid) #[.agg #[.int .i64 0,.string ⟨#[]⟩,.int .i64 0,.bool false,.int .i64 0,.string ⟨#[]⟩,.slice none 0 0,.slice none 0 0,.slice none 0 0,.slice none 0 0],.slice none 0 0,.slice none 0 0] (World.laidAll_os _ _ _) (by kernel_rfl) (by kernel_rfl) (by kernel_rfl)
   (OpenSpec.preRow_of_cond 8 hx (by kernel_rfl) (fun k hk=>by cases hk; kernel_rfl) (by kernel_rfl) (by rw [MakeChecks.laidMetH_plain _ _ _ (by kernel_rfl)]; exact qR os))) ?_
 intro W base args ds gs before hval hW _ hcond _ hlaid hshape _
 rw [MakeChecks.laidMetH_plain _ _ _ (by kernel_rfl)] at hlaid
 have hk:=hcond _ rfl
 have hk2:fP (ds ++ gs)≤1048576:=by
  have:=of_decide_eq_true hk
  rw [fO] at this
  exact this
 have hgs:gs=[]:=by
  obtain ⟨p,q,hA,hV,rfl,hfz,hnd⟩:=hW
  cases gs with
  | nil=>rfl
  | cons g gs=>exact hV.elim
 subst hgs
 rw [List.append_nil] at hk2
 refine Aa (P:=Tryz.prog) (S:=[3,4,9,22,23,25,26,28,29,30,37,49]) (tb:=4) (by kernel_rfl) (by rw [Tryz.params3]; decide) (by rw [Tryz.params3]; exact of_decide_eq_true (by kernel_rfl)) laidOut (by kernel_rfl) Tryz.underlying4 rfl ?_ (fun qs N h hN=>by rw [Tryz.params3] at h; exact walk qs N h (by omega)) hval hW (Ae hlaid hshape)
 rw [Tryz.params3]
 intro ds hd
 match ds,hd with
 | [d0,d1,d2],_=>rfl

end checkSound
end Go.Proofs.YtangbjfgdmopoaaGreatDoor
