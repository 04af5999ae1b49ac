/- Proved here: the walk of ConditionSound, at the arguments of the row. -/
import Derived.Test.YtggpjlegajicnaaGreatDoorCzWalk2
import Derived.Test.YtggpjlegajicnaaGreatDoorCzPlain2
import Derived.Test.YtggpjlegajicnaaGreatDoorRows
import Derived.Test.YtggpjlegajicnaaGreatDoorCards
import Derived.Test.YtggpjlegajicnaaGreatDoorTie
import Derived.WalkKit
import Derived.ProofKit
import Derived.OpenShut
import Derived.JoinedCond
import Derived.Deep.DeepHandedRow
import Derived.Deep.DeepWitnessRowRef
import Derived.Lay
import Derived.SevenTiedAt
import Derived.MakeChecks
set_option linter.unusedVariables false
set_option linter.unusedSimpArgs false
set_option linter.unusedSectionVars false
namespace Go.Proofs.YtggpjlegajicnaaGreatDoor
open Go Go.Abs Go.Ft
section
variable [iw]
theorem VT {c:List PV} {N:Nat} (h:BG Tryz.prog 3 c N):∃ x:Int,c=[.int .i64 x]∧1≤N:=by
 obtain ⟨n,rfl,hw,rfl⟩:=h.ahA Tryz.underlying3
 exact ⟨n,rfl,Nat.le_refl _⟩
theorem VR {c:List PV} {N:Nat} (h:BG Tryz.prog 9 c N):∃ x:Str,c=[.str x]∧(x.length + 1)≤N:=by
 obtain ⟨s,rfl,rfl⟩:=h.agX Tryz.underlying9
 exact ⟨s,rfl,Nat.le_refl _⟩
theorem ajW {c:List PV} {N:Nat} (h:BG Tryz.prog 4 c N):∃ x:Bool,c=[.bool x]∧1≤N:=by
 obtain ⟨b,rfl,rfl⟩:=h.ab5 Tryz.underlying4
 exact ⟨b,rfl,Nat.le_refl _⟩
theorem abB {c:List PV} {N:Nat} (h:BG Tryz.prog 29 c N):∃ x:List Str,c=[.list (List.map wR x)]∧((List.map (fun z:Str=>(z.length + 1)) x).sum + 1)≤N:=by
 obtain ⟨l,rfl,rfl,hl⟩:=h.IJ Tryz.underlying29
 obtain ⟨xs,h1,h2⟩:=FM (f:=wR) (μ:=fun z:Str=>(z.length + 1)) fun x hx=>VR (hl x hx)
 exact ⟨xs,by rw [h1],by omega⟩
theorem abA :∀ {c:List PV} {N:Nat} (h:BG Tryz.prog 31 c N),∃ x:ah,c=ah.cells x∧(ah.bulk x)≤N:=by
 have key:∀ (M:Nat) {c:List PV},BG Tryz.prog 31 c M→∃ x:ah,c=ah.cells x∧(ah.bulk x)≤M:=by
  intro M
  induction M using Nat.strongRecOn with
  | _ M ih=>
   intro c h
   obtain ⟨ps,rfl,hNe,hlen,hz⟩:=h.PX Tryz.underlying31
   match ps,hlen with
   | [p0,p1,p2,p3,p4,p5],_=>
    have hN:=hNe
    simp only [List.map_cons,List.map_nil,List.sum_cons,List.sum_nil] at hN
    have k0:BG Tryz.prog 3 p0.1 p0.2:=hz _ (List.mem_of_getElem? (i:=0) rfl)
    obtain ⟨x0,c0,b0⟩:=VT k0
    have k1:BG Tryz.prog 4 p1.1 p1.2:=hz _ (List.mem_of_getElem? (i:=1) rfl)
    obtain ⟨x1,c1,b1⟩:=ajW k1
    have k2:BG Tryz.prog 3 p2.1 p2.2:=hz _ (List.mem_of_getElem? (i:=2) rfl)
    obtain ⟨x2,c2,b2⟩:=VT k2
    have k3:BG Tryz.prog 9 p3.1 p3.2:=hz _ (List.mem_of_getElem? (i:=3) rfl)
    obtain ⟨x3,c3,b3⟩:=VR k3
    have k4:BG Tryz.prog 28 p4.1 p4.2:=hz _ (List.mem_of_getElem? (i:=4) rfl)
    obtain ⟨l4,e4,m4,hl4⟩:=k4.IJ Tryz.underlying28
    have am1:∀ x∈l4,x.2≤(l4.map (·.2)).sum:=fun x hx=>aap hx
    obtain ⟨as4,q4,r4⟩:=FM (f:=ah.cells) (μ:=ah.bulk) fun x hx=>ih x.2 (by have:=am1 x hx; omega) (hl4 x hx)
    obtain ⟨x4,c4,b4⟩:∃ x:List ah,p4.1=[.list (ah.aT x)]∧ah.o9 x + 1≤p4.2:=⟨as4,by rw [e4,q4,ah.aA],by rw [ah.nT]; omega⟩
    have k5:BG Tryz.prog 29 p5.1 p5.2:=hz _ (List.mem_of_getElem? (i:=5) rfl)
    obtain ⟨x5,c5,b5⟩:=abB k5
    refine ⟨⟨x0,x1,x2,x3,x4,x5⟩,?_,?_⟩
    ·
     simp only [List.map_cons,List.map_nil,List.flatten_cons,List.flatten_nil,c0,c1,c2,c3,c4,c5]
     first | rfl | simp [ah.cells]
    ·
     simp only [List.map_cons,List.map_nil,List.sum_cons,List.sum_nil] at *
     first | (simp only [ah.bulk]; omega) | (rw [ah.lu]; simp only; omega)
 intro c N h
 exact key N h
theorem aho :∀ {c:List PV} {N:Nat} (h:BG Tryz.prog 34 c N),∃ x:ak,c=ak.cells x∧(ak.bulk x)≤N:=by
 have key:∀ (M:Nat) {c:List PV},BG Tryz.prog 34 c M→∃ x:ak,c=ak.cells x∧(ak.bulk x)≤M:=by
  intro M
  induction M using Nat.strongRecOn with
  | _ M ih=>
   intro c h
   obtain ⟨ps,rfl,hNe,hlen,hz⟩:=h.PX Tryz.underlying34
   match ps,hlen with
   | [p0,p1,p2,p3,p4],_=>
    have hN:=hNe
    simp only [List.map_cons,List.map_nil,List.sum_cons,List.sum_nil] at hN
    have k0:BG Tryz.prog 3 p0.1 p0.2:=hz _ (List.mem_of_getElem? (i:=0) rfl)
    obtain ⟨x0,c0,b0⟩:=VT k0
    have k1:BG Tryz.prog 9 p1.1 p1.2:=hz _ (List.mem_of_getElem? (i:=1) rfl)
    obtain ⟨x1,c1,b1⟩:=VR k1
    have k2:BG Tryz.prog 31 p2.1 p2.2:=hz _ (List.mem_of_getElem? (i:=2) rfl)
    obtain ⟨x2,c2,b2⟩:=abA k2
    have k3:BG Tryz.prog 32 p3.1 p3.2:=hz _ (List.mem_of_getElem? (i:=3) rfl)
    obtain ⟨l3,e3,m3,hl3⟩:=k3.IJ Tryz.underlying32
    have hle3:∀ x∈l3,x.2≤(l3.map (·.2)).sum:=fun x hx=>aap hx
    obtain ⟨as3,q3,r3⟩:=FM (f:=ak.cells) (μ:=ak.bulk) fun x hx=>ih x.2 (by have:=hle3 x hx; omega) (hl3 x hx)
    obtain ⟨x3,c3,b3⟩:∃ x:List ak,p3.1=[.list (ak.aT x)]∧ak.o9 x + 1≤p3.2:=⟨as3,by rw [e3,q3,ak.aA],by rw [ak.nT]; omega⟩
    have k4:BG Tryz.prog 29 p4.1 p4.2:=hz _ (List.mem_of_getElem? (i:=4) rfl)
    obtain ⟨x4,c4,b4⟩:=abB k4
    refine ⟨⟨x0,x1,x2,x3,x4⟩,?_,?_⟩
    ·
     simp only [List.map_cons,List.map_nil,List.flatten_cons,List.flatten_nil,c0,c1,c2,c3,c4]
     first | rfl | simp [ak.cells,ah.aC]
    ·
     simp only [List.map_cons,List.map_nil,List.sum_cons,List.sum_nil] at *
     first | (simp only [ak.bulk]; omega) | (rw [ak.lu]; simp only; omega)
 intro c N h
 exact key N h
theorem ahq {c:List PV} {N:Nat} (h:BG Tryz.prog 22 c N):∃ x:List Int,c=[.list (List.map FQ x)]∧((List.map (fun z:Int=>1) x).sum + 1)≤N:=by
 obtain ⟨l,rfl,rfl,hl⟩:=h.IJ Tryz.underlying22
 obtain ⟨xs,h1,h2⟩:=FM (f:=FQ) (μ:=fun z:Int=>1) fun x hx=>VT (hl x hx)
 exact ⟨xs,by rw [h1],by omega⟩
theorem ahn {c:List PV} {N:Nat} (h:BG Tryz.prog 51 c N):∃ x:aB,c=aB.cells x∧(aB.bulk x)≤N:=by
 obtain ⟨ps,rfl,rfl,hlen,hz⟩:=h.PX Tryz.underlying51
 match ps,hlen with
 | [p0,p1],_=>
  have k0:BG Tryz.prog 9 p0.1 p0.2:=hz _ (List.mem_of_getElem? (i:=0) rfl)
  obtain ⟨x0,c0,b0⟩:=VR k0
  have k1:BG Tryz.prog 31 p1.1 p1.2:=hz _ (List.mem_of_getElem? (i:=1) rfl)
  obtain ⟨x1,c1,b1⟩:=abA k1
  refine ⟨⟨x0,x1⟩,?_,?_⟩
  ·
   simp only [List.map_cons,List.map_nil,List.flatten_cons,List.flatten_nil,c0,c1]
   first | rfl | simp [aB.cells,ah.aC]
  ·
   simp only [List.map_cons,List.map_nil,List.sum_cons,List.sum_nil] at *
   first | (simp only [aB.bulk]; omega) | (rw [aB.lu]; simp only; omega)
theorem ahp {c:List PV} {N:Nat} (h:BG Tryz.prog 23 c N):∃ x:List aB,c=[.list (List.map aB.cells x)]∧((List.map (fun z:aB=>(aB.bulk z)) x).sum + 1)≤N:=by
 obtain ⟨l,rfl,rfl,hl⟩:=h.IJ Tryz.underlying23
 obtain ⟨xs,h1,h2⟩:=FM (f:=aB.cells) (μ:=fun z:aB=>(aB.bulk z)) fun x hx=>ahn (hl x hx)
 exact ⟨xs,by rw [h1],by omega⟩
end
namespace conditionSound
open Go.ChangeShapes Go.WideShapes Go.ChangeAt Go.RowKit
theorem own :ownKnob Tryz.prog.godebug=none:=by kernel_rfl
theorem laidOut :laidOutB Tryz.prog=true:=by kernel_rfl
mutual
theorem Bw {H:Type}:∀ d:DataW H,Rows.uptoBulk d=qx d
 | .lit (.string _)=>by simp only [Rows.uptoBulk,qx]
 | .lit (.bool _)=>by simp only [Rows.uptoBulk,qx]
 | .lit (.int _ _)=>by simp only [Rows.uptoBulk,qx]
 | .lit (.float _ _)=>by simp only [Rows.uptoBulk,qx]
 | .lit .nil=>by simp only [Rows.uptoBulk,qx]
 | .nil=>by simp only [Rows.uptoBulk,qx]
 | .ptr d=>by simp only [Rows.uptoBulk,qx,Bw d]
 | .slice a b=>by simp only [Rows.uptoBulk,qx,JR a,JR b]
 | .agg a=>by simp only [Rows.uptoBulk,qx,JR a]
 | .iface _ d=>by simp only [Rows.uptoBulk,qx,Bw d]
 | .map a=>by simp only [Rows.uptoBulk,qx,Vd a]
 | .held _=>by simp only [Rows.uptoBulk,qx]
theorem JR {H:Type}:∀ l:List (DataW H),Rows.uptoBulkAll l=nU l
 | []=>by simp only [Rows.uptoBulkAll,nU]
 | d :: r=>by simp only [Rows.uptoBulkAll,nU,Bw d,JR r]
theorem Vd {H:Type}:∀ l:List (Lit × DataW H),Rows.uptoBulkEntries l=zy l
 | []=>by simp only [Rows.uptoBulkEntries,zy]
 | x :: r=>by simp only [Rows.uptoBulkEntries,zy,af0 x,Vd r]
theorem af0 {H:Type}:∀ x:Lit × DataW H,Rows.uptoBulkEntry x=xw x
 | (.string _,d)=>by simp only [Rows.uptoBulkEntry,xw,Bw d]
 | (.bool _,d)=>by simp only [Rows.uptoBulkEntry,xw,Bw d]
 | (.int _ _,d)=>by simp only [Rows.uptoBulkEntry,xw,Bw d]
 | (.float _ _,d)=>by simp only [Rows.uptoBulkEntry,xw,Bw d]
 | (.nil,d)=>by simp only [Rows.uptoBulkEntry,xw,Bw d]
end
instance anO :iw:=al7 [2] [0,1] [(3,Lib.pow10Tab.map fun z=>Value.int .u64 z)]
instance evI :Hf where
 hD:=id
 max:=fun w m h=>(h.1 2 (by simp)).2
 pow:=fun w m h=>adr (g:=3) (by kernel_rfl) (by decide) fun off=>(h.2.2 (3,Lib.pow10Tab.map fun z=>Value.int .u64 z) (by simp) off).2
 syn:=fun w m h=>by
  obtain ⟨_,u,v,e⟩:=h.2.1 0 (by simp)
  exact ⟨_,e,.inr ⟨_,_,rfl⟩⟩
 rng:=fun w m h=>by
  obtain ⟨_,u,v,e⟩:=h.2.1 1 (by simp)
  exact ⟨_,e,.inr ⟨_,_,rfl⟩⟩
/-- the walk,over any arguments of the parameters' types -/
theorem walk :∀ qs N,WZ Tryz.prog [34,22,23] qs N→N≤1048576→AC Tryz.prog 8 qs [] fun out _=>out=.ret (.bool true):=by
 intro qs N h hN
 obtain ⟨q0,qs0,A0,B0,rfl,e0,t0,g0⟩:=h
 obtain ⟨cs0,rfl,u0⟩:=t0.ami ⟨_,Tryz.underlying34⟩
 obtain ⟨x0,rfl,m0⟩:=aho u0
 rw [ak.aC]
 obtain ⟨q1,qs1,A1,B1,rfl,e1,t1,g1⟩:=g0
 have u1:=t1.aac (by rw [Tryz.underlying22]; simp) (by rw [Tryz.underlying22]; simp)
 obtain ⟨x1,hx1,m1⟩:=ahq u1
 simp only [List.cons.injEq,and_true] at hx1
 subst hx1
 obtain ⟨q2,qs2,A2,B2,rfl,e2,t2,g2⟩:=g1
 have u2:=t2.aac (by rw [Tryz.underlying23]; simp) (by rw [Tryz.underlying23]; simp)
 obtain ⟨x2,hx2,m2⟩:=ahp u2
 simp only [List.cons.injEq,and_true] at hx2
 subst hx2
 obtain ⟨rfl,e3⟩:=g2
 exact JO _ _ _ (Lg x0 x1 x2 (by omega)) rfl
theorem akg {W:World} (hL:laidMet Tryz.prog [("math/bits.deBruijn32tab",Rows.laid_math_bits_deBruijn32tab),("math/bits.deBruijn64tab",Rows.laid_math_bits_deBruijn64tab),("internal/strconv.uint64pow10",Rows.laid_internal_strconv_uint64pow10),("unicode/utf8.acceptRanges",Rows.laid_unicode_utf8_acceptRanges),("strconv.ErrRange",Rows.laid_strconv_ErrRange),("strconv.ErrSyntax",Rows.laid_strconv_ErrSyntax),("unicode/utf8.first",Rows.laid_unicode_utf8_first)] W) (hS:W.ShapedOpen Tryz.prog):iw.G W (xA W):=by
 refine ⟨fun g hg=>?_,fun g hg=>?_,fun p hp=>?_⟩
 ·
  obtain rfl:=List.mem_singleton.1 hg
  obtain ⟨n,hn⟩:=Go.Proofs.cell_of_shapedOpen_int (g:=2) (zero:=#[.int .i64 0]) (t:=3) hS (of_decide_eq_true (by kernel_rfl)) (by kernel_rfl) rfl (by kernel_rfl) (by kernel_rfl) Tryz.underlying3
  exact ⟨RY hn,n,hn⟩
 ·
  simp only [List.mem_cons,List.not_mem_nil,or_false] at hg
  rcases hg with rfl | rfl
  ·
   obtain ⟨u,v,e⟩:=Rk (g:=0) (t:=177) hL.tail.tail.tail.tail.tail (by kernel_rfl) (by kernel_rfl) (show Tryz.prog.underlying 177=some (.interface (Tryz.prog.methodsAt 177)) by kernel_rfl)
   exact ⟨RY e,u,v,e⟩
  ·
   obtain ⟨u,v,e⟩:=Rk (g:=1) (t:=177) hL.tail.tail.tail.tail (by kernel_rfl) (by kernel_rfl) (show Tryz.prog.underlying 177=some (.interface (Tryz.prog.methodsAt 177)) by kernel_rfl)
   exact ⟨RY e,u,v,e⟩
 ·
  obtain rfl:=List.mem_singleton.1 hp
  exact acy (by kernel_rfl) (Lib.tabIs_of_head (g:=3) (t:=318) (e:=237) (n:=20) (by kernel_rfl) (by kernel_rfl) (by kernel_rfl) (by kernel_rfl) (by kernel_rfl) (by kernel_rfl) (show laidMet Tryz.prog (("internal/strconv.uint64pow10",Lib.tabData .u64 Lib.pow10Tab) :: _) W from hL.tail.tail))
theorem afl (os:Os):laidMet Tryz.prog Rows.conditionSoundUptoRow.laid ((World.laidAll Tryz.prog os Rows.conditionSoundUptoRow.laid).forCall (fun _ _=>0) ⟨#[],#[.agg #[.int .i64 0,.string ⟨#[]⟩,.int .i64 0,.bool false,.int .i64 0,.string ⟨#[]⟩,.slice none 0 0,.slice none 0 0,.slice none 0 0,.slice none 0 0],.slice none 0 0,.slice none 0 0],[]⟩).memory:=
 laidMet_laidAll _ (by kernel_rfl) (by kernel_rfl)
theorem reads (os:Os) {H:Type} (enc:TypeId × Value→H):∃ places,DataW.whole enc Tryz.prog ((World.laidAll Tryz.prog os Rows.conditionSoundUptoRow.laid).forCall (fun _ _=>0) ⟨#[],#[.agg #[.int .i64 0,.string ⟨#[]⟩,.int .i64 0,.bool false,.int .i64 0,.string ⟨#[]⟩,.slice none 0 0,.slice none 0 0,.slice none 0 0,.slice none 0 0],.slice none 0 0,.slice none 0 0],[]⟩).memory Tryz.f8.params.toList Rows.conditionSoundSpec.vars false (#[.agg #[.int .i64 0,.string ⟨#[]⟩,.int .i64 0,.bool false,.int .i64 0,.string ⟨#[]⟩,.slice none 0 0,.slice none 0 0,.slice none 0 0,.slice none 0 0],.slice none 0 0,.slice none 0 0]:Array Value).toList 8=some ([.agg [.lit (.int .i64 0),.lit (.string []),.agg [.lit (.int .i64 0),.lit (.bool false),.lit (.int .i64 0),.lit (.string []),.nil,.nil],.nil,.nil],.nil,.nil],[],places):=
 ⟨[],by kernel_rfl⟩
set_option maxRecDepth 100000 in
theorem lifted (os:Os) (started:os.Started) (H:Type) (enc:TypeId × Value→H) (F:Stop.Interp):
  ReturnsInHanded {} Tryz.checked os 8 .any ((Rows.OpenSpec.upto Rows.conditionSoundSpec).preRow enc Tryz.prog Tryz.f8 Rows.conditionSoundUptoRow.domain false Rows.conditionSoundUptoRow.laid) (((Rows.OpenSpec.upto Rows.conditionSoundSpec).at F).post enc Tryz.prog Tryz.f8 false true false false):=by
 obtain ⟨places,hx⟩:=reads os enc
 refine returnsInHanded_of_row (C:=Tryz.checked) (s:=Rows.OpenSpec.upto Rows.conditionSoundSpec) own started (by kernel_rfl) Tryz.func8
  (witness_row_atRef (enc:=enc) (C:=Tryz.checked) false (World.laidAll Tryz.prog os Rows.conditionSoundUptoRow.laid) #[.agg #[.int .i64 0,.string ⟨#[]⟩,.int .i64 0,.bool false,.int .i64 0,.string ⟨#[]⟩,.slice none 0 0,.slice none 0 0,.slice none 0 0,.slice none 0 0],.slice none 0 0,.slice none 0 0] (World.laidAll_os _ _ _) (by kernel_rfl) (by kernel_rfl) (by kernel_rfl)
   (OpenSpec.preRow_of_cond 8 hx (by kernel_rfl) (fun k hk=>by cases hk; kernel_rfl) (by kernel_rfl) (by rw [MakeChecks.laidMetH_plain _ _ _ (by kernel_rfl)]; exact afl os))) ?_
 intro W base args ds gs before hval hW _ hcond _ hlaid hshape _
 rw [MakeChecks.laidMetH_plain _ _ _ (by kernel_rfl)] at hlaid
 have hk:=hcond _ rfl
 have hk2:nU (ds ++ gs)≤1048576:=by
  have:=of_decide_eq_true hk
  rw [JR] at this
  exact this
 have hgs:gs=[]:=by
  obtain ⟨p,q,hA,hV,rfl,hfz,hnd⟩:=hW
  cases gs with
  | nil=>rfl
  | cons g gs=>exact hV.elim
 subst hgs
 rw [List.append_nil] at hk2
 refine ac2 (P:=Tryz.prog) (S:=[3,4,9,22,23,28,29,31,32,34,51]) (tb:=4) (by kernel_rfl) (by rw [Tryz.params8]; decide) (by rw [Tryz.params8]; exact of_decide_eq_true (by kernel_rfl)) laidOut (by kernel_rfl) Tryz.underlying4 rfl ?_ (fun qs N h hN=>by rw [Tryz.params8] at h; exact walk qs N h (by omega)) hval hW (akg hlaid hshape)
 rw [Tryz.params8]
 intro ds hd
 match ds,hd with
 | [d0,d1,d2],_=>rfl
end conditionSound
end Go.Proofs.YtggpjlegajicnaaGreatDoor
