/- Proved here: the walk of InterpShows, at the arguments of the row. -/
import Derived.Test.YtpbjbkhfpjckoaaGreatDoorIsWalk2
import Derived.Test.YtpbjbkhfpjckoaaGreatDoorIsPlain1
import Derived.Test.YtpbjbkhfpjckoaaGreatDoorRows
import Derived.Test.YtpbjbkhfpjckoaaGreatDoorCards
import Derived.Test.YtpbjbkhfpjckoaaGreatDoorTie
import Derived.WalkKit
import Derived.ProofKit
import Derived.OpenShut
import Derived.JoinedCond
import Derived.Deep.DeepHandedRow
import Derived.Deep.DeepWitnessRowRef
import Derived.Lay
import Derived.SevenTiedAt
import Derived.MakeChecks
set_option linter.unusedVariables false
set_option linter.unusedSimpArgs false
set_option linter.unusedSectionVars false
namespace Go.Proofs.YtpbjbkhfpjckoaaGreatDoor
open Go Go.Abs Go.Ft
section
variable [d9]
theorem Ld {c:List PV} {N:Nat} (h:tC Tryz.prog 9 c N):∃ x:Str,c=[.str x]∧(x.length + 1)≤N:=by
 obtain ⟨s,rfl,rfl⟩:=h.Uw Tryz.underlying9
 exact ⟨s,rfl,Nat.le_refl _⟩
theorem SH {c:List PV} {N:Nat} (h:tC Tryz.prog 4 c N):∃ x:Bool,c=[.bool x]∧1≤N:=by
 obtain ⟨b,rfl,rfl⟩:=h.P6 Tryz.underlying4
 exact ⟨b,rfl,Nat.le_refl _⟩
theorem Ot {c:List PV} {N:Nat} (h:tC Tryz.prog 3 c N):∃ x:Int,c=[.int .i64 x]∧1≤N:=by
 obtain ⟨n,rfl,hw,rfl⟩:=h.UY Tryz.underlying3
 exact ⟨n,rfl,Nat.le_refl _⟩
theorem Pq {c:List PV} {N:Nat} (h:tC Tryz.prog 32 c N):∃ x:List Str,c=[.list (List.map iW x)]∧((List.map (fun z:Str=>(z.length + 1)) x).sum + 1)≤N:=by
 obtain ⟨l,rfl,rfl,hl⟩:=h.Cy Tryz.underlying32
 obtain ⟨xs,h1,h2⟩:=Ao (f:=iW) (μ:=fun z:Str=>(z.length + 1)) fun x hx=>Ld (hl x hx)
 exact ⟨xs,by rw [h1],by omega⟩
theorem UH :∀ {c:List PV} {N:Nat} (h:tC Tryz.prog 34 c N),∃ x:aj,c=aj.cells x∧(aj.bulk x)≤N:=by
 have key:∀ (M:Nat) {c:List PV},tC Tryz.prog 34 c M→∃ x:aj,c=aj.cells x∧(aj.bulk x)≤M:=by
  intro M
  induction M using Nat.strongRecOn with
  | _ M ih=>
   intro c h
   obtain ⟨ps,rfl,hNe,hlen,hz⟩:=h.Gc Tryz.underlying34
   match ps,hlen with
   | [p0,p1,p2,p3,p4,p5],_=>
    have hN:=hNe
    simp only [List.map_cons,List.map_nil,List.sum_cons,List.sum_nil] at hN
    have k0:tC Tryz.prog 3 p0.1 p0.2:=hz _ (List.mem_of_getElem? (i:=0) rfl)
    obtain ⟨x0,c0,b0⟩:=Ot k0
    have k1:tC Tryz.prog 4 p1.1 p1.2:=hz _ (List.mem_of_getElem? (i:=1) rfl)
    obtain ⟨x1,c1,b1⟩:=SH k1
    have k2:tC Tryz.prog 3 p2.1 p2.2:=hz _ (List.mem_of_getElem? (i:=2) rfl)
    obtain ⟨x2,c2,b2⟩:=Ot k2
    have k3:tC Tryz.prog 9 p3.1 p3.2:=hz _ (List.mem_of_getElem? (i:=3) rfl)
    obtain ⟨x3,c3,b3⟩:=Ld k3
    have k4:tC Tryz.prog 31 p4.1 p4.2:=hz _ (List.mem_of_getElem? (i:=4) rfl)
    obtain ⟨l4,e4,m4,hl4⟩:=k4.Cy Tryz.underlying31
    have ZU:∀ x∈l4,x.2≤(l4.map (·.2)).sum:=fun x hx=>Ox hx
    obtain ⟨as4,q4,r4⟩:=Ao (f:=aj.cells) (μ:=aj.bulk) fun x hx=>ih x.2 (by have:=ZU x hx; omega) (hl4 x hx)
    obtain ⟨x4,c4,b4⟩:∃ x:List aj,p4.1=[.list (aj.bL x)]∧aj.ow x + 1≤p4.2:=⟨as4,by rw [e4,q4,aj.aC],by rw [aj.j6]; omega⟩
    have k5:tC Tryz.prog 32 p5.1 p5.2:=hz _ (List.mem_of_getElem? (i:=5) rfl)
    obtain ⟨x5,c5,b5⟩:=Pq k5
    refine ⟨⟨x0,x1,x2,x3,x4,x5⟩,?_,?_⟩
    ·
     simp only [List.map_cons,List.map_nil,List.flatten_cons,List.flatten_nil,c0,c1,c2,c3,c4,c5]
     first | rfl | simp [aj.cells]
    ·
     simp only [List.map_cons,List.map_nil,List.sum_cons,List.sum_nil] at *
     first | (simp only [aj.bulk]; omega) | (rw [aj.gW]; simp only; omega)
 intro c N h
 exact key N h
theorem UG :∀ {c:List PV} {N:Nat} (h:tC Tryz.prog 37 c N),∃ x:ah,c=ah.cells x∧(ah.bulk x)≤N:=by
 have key:∀ (M:Nat) {c:List PV},tC Tryz.prog 37 c M→∃ x:ah,c=ah.cells x∧(ah.bulk x)≤M:=by
  intro M
  induction M using Nat.strongRecOn with
  | _ M ih=>
   intro c h
   obtain ⟨ps,rfl,hNe,hlen,hz⟩:=h.Gc Tryz.underlying37
   match ps,hlen with
   | [p0,p1,p2,p3,p4],_=>
    have hN:=hNe
    simp only [List.map_cons,List.map_nil,List.sum_cons,List.sum_nil] at hN
    have k0:tC Tryz.prog 3 p0.1 p0.2:=hz _ (List.mem_of_getElem? (i:=0) rfl)
    obtain ⟨x0,c0,b0⟩:=Ot k0
    have k1:tC Tryz.prog 9 p1.1 p1.2:=hz _ (List.mem_of_getElem? (i:=1) rfl)
    obtain ⟨x1,c1,b1⟩:=Ld k1
    have k2:tC Tryz.prog 34 p2.1 p2.2:=hz _ (List.mem_of_getElem? (i:=2) rfl)
    obtain ⟨x2,c2,b2⟩:=UH k2
    have k3:tC Tryz.prog 35 p3.1 p3.2:=hz _ (List.mem_of_getElem? (i:=3) rfl)
    obtain ⟨l3,e3,m3,hl3⟩:=k3.Cy Tryz.underlying35
    have hle3:∀ x∈l3,x.2≤(l3.map (·.2)).sum:=fun x hx=>Ox hx
    obtain ⟨as3,q3,r3⟩:=Ao (f:=ah.cells) (μ:=ah.bulk) fun x hx=>ih x.2 (by have:=hle3 x hx; omega) (hl3 x hx)
    obtain ⟨x3,c3,b3⟩:∃ x:List ah,p3.1=[.list (ah.bL x)]∧ah.ow x + 1≤p3.2:=⟨as3,by rw [e3,q3,ah.aC],by rw [ah.j6]; omega⟩
    have k4:tC Tryz.prog 32 p4.1 p4.2:=hz _ (List.mem_of_getElem? (i:=4) rfl)
    obtain ⟨x4,c4,b4⟩:=Pq k4
    refine ⟨⟨x0,x1,x2,x3,x4⟩,?_,?_⟩
    ·
     simp only [List.map_cons,List.map_nil,List.flatten_cons,List.flatten_nil,c0,c1,c2,c3,c4]
     first | rfl | simp [ah.cells,aj.aF]
    ·
     simp only [List.map_cons,List.map_nil,List.sum_cons,List.sum_nil] at *
     first | (simp only [ah.bulk]; omega) | (rw [ah.gW]; simp only; omega)
 intro c N h
 exact key N h
theorem UF {c:List PV} {N:Nat} (h:tC Tryz.prog 39 c N):∃ x:aB,c=aB.cells x∧(aB.bulk x)≤N:=by
 obtain ⟨ps,rfl,rfl,hlen,hz⟩:=h.Gc Tryz.underlying39
 match ps,hlen with
 | [p0,p1,p2],_=>
  have k0:tC Tryz.prog 9 p0.1 p0.2:=hz _ (List.mem_of_getElem? (i:=0) rfl)
  obtain ⟨x0,c0,b0⟩:=Ld k0
  have k1:tC Tryz.prog 4 p1.1 p1.2:=hz _ (List.mem_of_getElem? (i:=1) rfl)
  obtain ⟨x1,c1,b1⟩:=SH k1
  have k2:tC Tryz.prog 37 p2.1 p2.2:=hz _ (List.mem_of_getElem? (i:=2) rfl)
  obtain ⟨x2,c2,b2⟩:=UG k2
  refine ⟨⟨x0,x1,x2⟩,?_,?_⟩
  ·
   simp only [List.map_cons,List.map_nil,List.flatten_cons,List.flatten_nil,c0,c1,c2]
   first | rfl | simp [aB.cells,ah.aF]
  ·
   simp only [List.map_cons,List.map_nil,List.sum_cons,List.sum_nil] at *
   first | (simp only [aB.bulk]; omega) | (rw [aB.gW]; simp only; omega)
theorem UJ {c:List PV} {N:Nat} (h:tC Tryz.prog 23 c N):∃ x:List aB,c=[.list (List.map aB.cells x)]∧((List.map (fun z:aB=>(aB.bulk z)) x).sum + 1)≤N:=by
 obtain ⟨l,rfl,rfl,hl⟩:=h.Cy Tryz.underlying23
 obtain ⟨xs,h1,h2⟩:=Ao (f:=aB.cells) (μ:=fun z:aB=>(aB.bulk z)) fun x hx=>UF (hl x hx)
 exact ⟨xs,by rw [h1],by omega⟩
end
namespace interpShows
open Go.ChangeShapes Go.WideShapes Go.ChangeAt Go.RowKit
theorem own :ownKnob Tryz.prog.godebug=none:=by kernel_rfl
theorem laidOut :laidOutB Tryz.prog=true:=by kernel_rfl
mutual
theorem tu {H:Type}:∀ d:DataW H,Rows.uptoBulk d=kX d
 | .lit (.string _)=>by simp only [Rows.uptoBulk,kX]
 | .lit (.bool _)=>by simp only [Rows.uptoBulk,kX]
 | .lit (.int _ _)=>by simp only [Rows.uptoBulk,kX]
 | .lit (.float _ _)=>by simp only [Rows.uptoBulk,kX]
 | .lit .nil=>by simp only [Rows.uptoBulk,kX]
 | .nil=>by simp only [Rows.uptoBulk,kX]
 | .ptr d=>by simp only [Rows.uptoBulk,kX,tu d]
 | .slice a b=>by simp only [Rows.uptoBulk,kX,Bd a,Bd b]
 | .agg a=>by simp only [Rows.uptoBulk,kX,Bd a]
 | .iface _ d=>by simp only [Rows.uptoBulk,kX,tu d]
 | .map a=>by simp only [Rows.uptoBulk,kX,KI a]
 | .held _=>by simp only [Rows.uptoBulk,kX]
theorem Bd {H:Type}:∀ l:List (DataW H),Rows.uptoBulkAll l=jO l
 | []=>by simp only [Rows.uptoBulkAll,jO]
 | d :: r=>by simp only [Rows.uptoBulkAll,jO,tu d,Bd r]
theorem KI {H:Type}:∀ l:List (Lit × DataW H),Rows.uptoBulkEntries l=rF l
 | []=>by simp only [Rows.uptoBulkEntries,rF]
 | x :: r=>by simp only [Rows.uptoBulkEntries,rF,TJ x,KI r]
theorem TJ {H:Type}:∀ x:Lit × DataW H,Rows.uptoBulkEntry x=pQ x
 | (.string _,d)=>by simp only [Rows.uptoBulkEntry,pQ,tu d]
 | (.bool _,d)=>by simp only [Rows.uptoBulkEntry,pQ,tu d]
 | (.int _ _,d)=>by simp only [Rows.uptoBulkEntry,pQ,tu d]
 | (.float _ _,d)=>by simp only [Rows.uptoBulkEntry,pQ,tu d]
 | (.nil,d)=>by simp only [Rows.uptoBulkEntry,pQ,tu d]
end
instance aav :d9:=Y4 [0] [6,7] [(3,Lib.pow10Tab.map fun z=>Value.int .u64 z)]
instance evI :zL where
 hD:=id
 max:=fun w m h=>(h.1 0 (by simp)).2
 pow:=fun w m h=>Q6 (g:=3) (by kernel_rfl) (by decide) fun off=>(h.2.2 (3,Lib.pow10Tab.map fun z=>Value.int .u64 z) (by simp) off).2
 syn:=fun w m h=>by
  obtain ⟨_,u,v,e⟩:=h.2.1 6 (by simp)
  exact ⟨_,e,.inr ⟨_,_,rfl⟩⟩
 rng:=fun w m h=>by
  obtain ⟨_,u,v,e⟩:=h.2.1 7 (by simp)
  exact ⟨_,e,.inr ⟨_,_,rfl⟩⟩
/-- the walk,over any arguments of the parameters' types -/
theorem walk :∀ qs N,Me Tryz.prog [23] qs N→N≤1048576→AC Tryz.prog 4 qs [] fun out _=>out=.ret (.bool true):=by
 intro qs N h hN
 obtain ⟨q0,qs0,A0,B0,rfl,e0,t0,g0⟩:=h
 have u0:=t0.Qy (by rw [Tryz.underlying23]; simp) (by rw [Tryz.underlying23]; simp)
 obtain ⟨x0,hx0,m0⟩:=UJ u0
 simp only [List.cons.injEq,and_true] at hx0
 subst hx0
 obtain ⟨rfl,e1⟩:=g0
 exact DZ _ (FT x0 (by omega)) rfl
theorem Xt {W:World} (hL:laidMet Tryz.prog [("math/bits.deBruijn32tab",Rows.laid_math_bits_deBruijn32tab),("math/bits.deBruijn64tab",Rows.laid_math_bits_deBruijn64tab),("internal/strconv.uint64pow10",Rows.laid_internal_strconv_uint64pow10),("unicode/utf8.acceptRanges",Rows.laid_unicode_utf8_acceptRanges),("strconv.ErrRange",Rows.laid_strconv_ErrRange),("strconv.ErrSyntax",Rows.laid_strconv_ErrSyntax),("unicode/utf8.first",Rows.laid_unicode_utf8_first)] W) (hS:W.ShapedOpen Tryz.prog):d9.G W (pU W):=by
 refine ⟨fun g hg=>?_,fun g hg=>?_,fun p hp=>?_⟩
 ·
  obtain rfl:=List.mem_singleton.1 hg
  obtain ⟨n,hn⟩:=Go.Proofs.cell_of_shapedOpen_int (g:=0) (zero:=#[.int .i64 0]) (t:=3) hS (of_decide_eq_true (by kernel_rfl)) (by kernel_rfl) rfl (by kernel_rfl) (by kernel_rfl) Tryz.underlying3
  exact ⟨Iz hn,n,hn⟩
 ·
  simp only [List.mem_cons,List.not_mem_nil,or_false] at hg
  rcases hg with rfl | rfl
  ·
   obtain ⟨u,v,e⟩:=H6 (g:=6) (t:=77) hL.tail.tail.tail.tail.tail (by kernel_rfl) (by kernel_rfl) (show Tryz.prog.underlying 77=some (.interface (Tryz.prog.methodsAt 77)) by kernel_rfl)
   exact ⟨Iz e,u,v,e⟩
  ·
   obtain ⟨u,v,e⟩:=H6 (g:=7) (t:=77) hL.tail.tail.tail.tail (by kernel_rfl) (by kernel_rfl) (show Tryz.prog.underlying 77=some (.interface (Tryz.prog.methodsAt 77)) by kernel_rfl)
   exact ⟨Iz e,u,v,e⟩
 ·
  obtain rfl:=List.mem_singleton.1 hp
  exact Qi (by kernel_rfl) (Lib.tabIs_of_head (g:=3) (t:=334) (e:=271) (n:=20) (by kernel_rfl) (by kernel_rfl) (by kernel_rfl) (by kernel_rfl) (by kernel_rfl) (by kernel_rfl) (show laidMet Tryz.prog (("internal/strconv.uint64pow10",Lib.tabData .u64 Lib.pow10Tab) :: _) W from hL.tail.tail))
theorem Tc (os:Os):laidMet Tryz.prog Rows.interpShowsUptoRow.laid ((World.laidAll Tryz.prog os Rows.interpShowsUptoRow.laid).forCall (fun _ _=>0) ⟨#[],#[.slice none 0 0],[]⟩).memory:=
 laidMet_laidAll _ (by kernel_rfl) (by kernel_rfl)
theorem reads (os:Os) {H:Type} (enc:TypeId × Value→H):∃ places,DataW.whole enc Tryz.prog ((World.laidAll Tryz.prog os Rows.interpShowsUptoRow.laid).forCall (fun _ _=>0) ⟨#[],#[.slice none 0 0],[]⟩).memory Tryz.f4.params.toList Rows.interpShowsSpec.vars false (#[.slice none 0 0]:Array Value).toList 8=some ([.nil],[],places):=
 ⟨[],by kernel_rfl⟩
set_option maxRecDepth 100000 in
theorem lifted (os:Os) (started:os.Started) (H:Type) (enc:TypeId × Value→H) (F:Stop.Interp):
  ReturnsInHanded {} Tryz.checked os 4 .any ((Rows.OpenSpec.upto Rows.interpShowsSpec).preRow enc Tryz.prog Tryz.f4 Rows.interpShowsUptoRow.domain false Rows.interpShowsUptoRow.laid) (((Rows.OpenSpec.upto Rows.interpShowsSpec).at F).post enc Tryz.prog Tryz.f4 false true false false):=by
 obtain ⟨places,hx⟩:=reads os enc
 refine returnsInHanded_of_row (C:=Tryz.checked) (s:=Rows.OpenSpec.upto Rows.interpShowsSpec) own started (by kernel_rfl) Tryz.func4
  (witness_row_atRef (enc:=enc) (C:=Tryz.checked) false (World.laidAll Tryz.prog os Rows.interpShowsUptoRow.laid) #[.slice none 0 0] (World.laidAll_os _ _ _) (by kernel_rfl) (by kernel_rfl) (by kernel_rfl)
   (OpenSpec.preRow_of_cond 8 hx (by kernel_rfl) (fun k hk=>by cases hk; kernel_rfl) (by kernel_rfl) (by rw [MakeChecks.laidMetH_plain _ _ _ (by kernel_rfl)]; exact Tc os))) ?_
 intro W base args ds gs before hval hW _ hcond _ hlaid hshape _
 rw [MakeChecks.laidMetH_plain _ _ _ (by kernel_rfl)] at hlaid
 have hk:=hcond _ rfl
 have hk2:jO (ds ++ gs)≤1048576:=by
  have:=of_decide_eq_true hk
  rw [Bd] at this
  exact this
 have hgs:gs=[]:=by
  obtain ⟨p,q,hA,hV,rfl,hfz,hnd⟩:=hW
  cases gs with
  | nil=>rfl
  | cons g gs=>exact hV.elim
 subst hgs
 rw [List.append_nil] at hk2
 refine QF (P:=Tryz.prog) (S:=[3,4,9,23,31,32,34,35,37,39]) (tb:=4) (by kernel_rfl) (by rw [Tryz.params4]; decide) (by rw [Tryz.params4]; exact of_decide_eq_true (by kernel_rfl)) laidOut (by kernel_rfl) Tryz.underlying4 rfl ?_ (fun qs N h hN=>by rw [Tryz.params4] at h; exact walk qs N h (by omega)) hval hW (Xt hlaid hshape)
 rw [Tryz.params4]
 intro ds hd
 match ds,hd with
 | [d0],_=>rfl
end interpShows
end Go.Proofs.YtpbjbkhfpjckoaaGreatDoor
