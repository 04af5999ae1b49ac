/- Proved here: the walk of CachekeyPlain, at the arguments of the row. -/
import Derived.Test.YtchmdnpcppkdpaaGreatDoorPdWalk1
import Derived.Test.YtchmdnpcppkdpaaGreatDoorPdPlain3
import Derived.Test.YtchmdnpcppkdpaaGreatDoorRows
import Derived.Test.YtchmdnpcppkdpaaGreatDoorCards
import Derived.Test.YtchmdnpcppkdpaaGreatDoorTie
import Derived.WalkKit
import Derived.ProofKit
import Derived.OpenShut
import Derived.JoinedCond
import Derived.Deep.DeepHandedRow
import Derived.Deep.DeepWitnessRowRef
import Derived.Lay
import Derived.SevenTiedAt
import Derived.MakeChecks
set_option linter.unusedVariables false
set_option linter.unusedSimpArgs false
set_option linter.unusedSectionVars false
namespace Go.Proofs.YtchmdnpcppkdpaaGreatDoor
open Go Go.Abs Go.Ft
section
variable [gD]
theorem P8{c:List PV}{N:Nat}(h:yG Tryz.prog 9 c N):∃x:Str,c=[.str x]∧(x.length+1)≤N:=by
 obtain⟨s,rfl,rfl⟩:=h.ag4 Tryz.underlying9
 exact⟨s,rfl,Nat.le_refl _⟩
theorem U9{c:List PV}{N:Nat}(h:yG Tryz.prog 22 c N):∃x:List Str,c=[.list (List.map jJ x)]∧((List.map (fun z:Str=>(z.length+1)) x).sum+1)≤N:=by
 obtain⟨l,rfl,rfl,hl⟩:=h.JA Tryz.underlying22
 obtain⟨xs,h1,h2⟩:=GU (f:=jJ) (μ:=fun z:Str=>(z.length+1)) fun x hx=>P8 (hl x hx)
 exact⟨xs,by rw[h1],by omega⟩
theorem ahu{c:List PV}{N:Nat}(h:yG Tryz.prog 24 c N):∃x:aQ,c=aQ.cells x∧(aQ.bulk x)≤N:=by
 obtain⟨ps,rfl,rfl,hlen,hz⟩:=h.Ii Tryz.underlying24
 match ps,hlen with
 | [p0,p1,p2],_=>
  have k0:yG Tryz.prog 9 p0.1 p0.2:=hz _ (List.mem_of_getElem? (i:=0) rfl)
  obtain⟨x0,c0,b0⟩:=P8 k0
  have k1:yG Tryz.prog 22 p1.1 p1.2:=hz _ (List.mem_of_getElem? (i:=1) rfl)
  obtain⟨x1,c1,b1⟩:=U9 k1
  have k2:yG Tryz.prog 22 p2.1 p2.2:=hz _ (List.mem_of_getElem? (i:=2) rfl)
  obtain⟨x2,c2,b2⟩:=U9 k2
  refine⟨⟨x0,x1,x2⟩,?_,?_⟩
  ·simp only[List.map_cons,List.map_nil,List.flatten_cons,List.flatten_nil,c0,c1,c2]
   first|rfl|simp[aQ.cells]
  ·simp only[List.map_cons,List.map_nil,List.sum_cons,List.sum_nil]at *
   first|(simp only[aQ.bulk];omega)|(rw[aQ.kW];simp only;omega)
theorem aen{c:List PV}{N:Nat}(h:yG Tryz.prog 3 c N):∃x:Int,c=[.int .i64 x]∧1≤N:=by
 obtain⟨n,rfl,hw,rfl⟩:=h.aeU Tryz.underlying3
 exact⟨n,rfl,Nat.le_refl _⟩
theorem ajX{c:List PV}{N:Nat}(h:yG Tryz.prog 4 c N):∃x:Bool,c=[.bool x]∧1≤N:=by
 obtain⟨b,rfl,rfl⟩:=h.abf Tryz.underlying4
 exact⟨b,rfl,Nat.le_refl _⟩
theorem ahq:∀ {c:List PV} {N:Nat} (h:yG Tryz.prog 35 c N),∃x:ah,c=ah.cells x∧(ah.bulk x)≤N:=by
 have key:∀(M:Nat) {c:List PV},yG Tryz.prog 35 c M→∃x:ah,c=ah.cells x∧(ah.bulk x)≤M:=by
  intro M
  induction M using Nat.strongRecOn with
  | _ M ih=>
   intro c h
   obtain⟨ps,rfl,hNe,hlen,hz⟩:=h.Ii Tryz.underlying35
   match ps,hlen with
   | [p0,p1,p2,p3,p4,p5],_=>
    have hN:=hNe
    simp only[List.map_cons,List.map_nil,List.sum_cons,List.sum_nil]at hN
    have k0:yG Tryz.prog 3 p0.1 p0.2:=hz _ (List.mem_of_getElem? (i:=0) rfl)
    obtain⟨x0,c0,b0⟩:=aen k0
    have k1:yG Tryz.prog 4 p1.1 p1.2:=hz _ (List.mem_of_getElem? (i:=1) rfl)
    obtain⟨x1,c1,b1⟩:=ajX k1
    have k2:yG Tryz.prog 3 p2.1 p2.2:=hz _ (List.mem_of_getElem? (i:=2) rfl)
    obtain⟨x2,c2,b2⟩:=aen k2
    have k3:yG Tryz.prog 9 p3.1 p3.2:=hz _ (List.mem_of_getElem? (i:=3) rfl)
    obtain⟨x3,c3,b3⟩:=P8 k3
    have k4:yG Tryz.prog 33 p4.1 p4.2:=hz _ (List.mem_of_getElem? (i:=4) rfl)
    obtain⟨l4,e4,m4,hl4⟩:=k4.JA Tryz.underlying33
    have anS:∀x∈l4,x.2≤(l4.map (·.2)).sum:=fun x hx=>aeM hx
    obtain⟨as4,q4,r4⟩:=GU (f:=ah.cells) (μ:=ah.bulk) fun x hx=>ih x.2 (by have:=anS x hx;omega) (hl4 x hx)
    obtain⟨x4,c4,b4⟩:∃x:List ah,p4.1=[.list (ah.eU x)]∧ah.mq x+1≤p4.2:=⟨as4,by rw[e4,q4,ah.dI],by rw[ah.pF];omega⟩
    have k5:yG Tryz.prog 22 p5.1 p5.2:=hz _ (List.mem_of_getElem? (i:=5) rfl)
    obtain⟨x5,c5,b5⟩:=U9 k5
    refine⟨⟨x0,x1,x2,x3,x4,x5⟩,?_,?_⟩
    ·simp only[List.map_cons,List.map_nil,List.flatten_cons,List.flatten_nil,c0,c1,c2,c3,c4,c5]
     first|rfl|simp[ah.cells]
    ·simp only[List.map_cons,List.map_nil,List.sum_cons,List.sum_nil]at *
     first|(simp only[ah.bulk];omega)|(rw[ah.kW];simp only;omega)
 intro c N h
 exact key N h
theorem ahp{c:List PV}{N:Nat}(h:yG Tryz.prog 37 c N):∃x:aD,c=aD.cells x∧(aD.bulk x)≤N:=by
 obtain⟨ps,rfl,rfl,hlen,hz⟩:=h.Ii Tryz.underlying37
 match ps,hlen with
 | [p0,p1],_=>
  have k0:yG Tryz.prog 9 p0.1 p0.2:=hz _ (List.mem_of_getElem? (i:=0) rfl)
  obtain⟨x0,c0,b0⟩:=P8 k0
  have k1:yG Tryz.prog 35 p1.1 p1.2:=hz _ (List.mem_of_getElem? (i:=1) rfl)
  obtain⟨x1,c1,b1⟩:=ahq k1
  refine⟨⟨x0,x1⟩,?_,?_⟩
  ·simp only[List.map_cons,List.map_nil,List.flatten_cons,List.flatten_nil,c0,c1]
   first|rfl|simp[aD.cells,ah.bn]
  ·simp only[List.map_cons,List.map_nil,List.sum_cons,List.sum_nil]at *
   first|(simp only[aD.bulk];omega)|(rw[aD.kW];simp only;omega)
theorem aht{c:List PV}{N:Nat}(h:yG Tryz.prog 25 c N):∃x:List aD,c=[.list (List.map aD.cells x)]∧((List.map (fun z:aD=>(aD.bulk z)) x).sum+1)≤N:=by
 obtain⟨l,rfl,rfl,hl⟩:=h.JA Tryz.underlying25
 obtain⟨xs,h1,h2⟩:=GU (f:=aD.cells) (μ:=fun z:aD=>(aD.bulk z)) fun x hx=>ahp (hl x hx)
 exact⟨xs,by rw[h1],by omega⟩
theorem aho{c:List PV}{N:Nat}(h:yG Tryz.prog 44 c N):∃x:BitVec 64,c=[.int .u64 (x.toNat:Int)]∧1≤N:=by
 obtain⟨n,rfl,hw,rfl⟩:=h.aeU Tryz.underlying44
 obtain⟨c,rfl⟩:=wf_u64 hw
 exact⟨c,rfl,Nat.le_refl _⟩
theorem ahn{c:List PV}{N:Nat}(h:yG Tryz.prog 63 c N):∃x:aP,c=aP.cells x∧(aP.bulk x)≤N:=by
 obtain⟨ps,rfl,rfl,hlen,hz⟩:=h.Ii Tryz.underlying63
 match ps,hlen with
 | [p0,p1],_=>
  have k0:yG Tryz.prog 9 p0.1 p0.2:=hz _ (List.mem_of_getElem? (i:=0) rfl)
  obtain⟨x0,c0,b0⟩:=P8 k0
  have k1:yG Tryz.prog 44 p1.1 p1.2:=hz _ (List.mem_of_getElem? (i:=1) rfl)
  obtain⟨x1,c1,b1⟩:=aho k1
  refine⟨⟨x0,x1⟩,?_,?_⟩
  ·simp only[List.map_cons,List.map_nil,List.flatten_cons,List.flatten_nil,c0,c1]
   first|rfl|simp[aP.cells]
  ·simp only[List.map_cons,List.map_nil,List.sum_cons,List.sum_nil]at *
   first|(simp only[aP.bulk];omega)|(rw[aP.kW];simp only;omega)
theorem ahs{c:List PV}{N:Nat}(h:yG Tryz.prog 26 c N):∃x:List aP,c=[.list (List.map aP.cells x)]∧((List.map (fun z:aP=>(aP.bulk z)) x).sum+1)≤N:=by
 obtain⟨l,rfl,rfl,hl⟩:=h.JA Tryz.underlying26
 obtain⟨xs,h1,h2⟩:=GU (f:=aP.cells) (μ:=fun z:aP=>(aP.bulk z)) fun x hx=>ahn (hl x hx)
 exact⟨xs,by rw[h1],by omega⟩
theorem ahr{c:List PV}{N:Nat}(h:yG Tryz.prog 28 c N):∃x:aO,c=aO.cells x∧(aO.bulk x)≤N:=by
 obtain⟨ps,rfl,rfl,hlen,hz⟩:=h.Ii Tryz.underlying28
 match ps,hlen with
 | [p0,p1,p2],_=>
  have k0:yG Tryz.prog 24 p0.1 p0.2:=hz _ (List.mem_of_getElem? (i:=0) rfl)
  obtain⟨x0,c0,b0⟩:=ahu k0
  have k1:yG Tryz.prog 25 p1.1 p1.2:=hz _ (List.mem_of_getElem? (i:=1) rfl)
  obtain⟨x1,c1,b1⟩:=aht k1
  have k2:yG Tryz.prog 26 p2.1 p2.2:=hz _ (List.mem_of_getElem? (i:=2) rfl)
  obtain⟨x2,c2,b2⟩:=ahs k2
  refine⟨⟨x0,x1,x2⟩,?_,?_⟩
  ·simp only[List.map_cons,List.map_nil,List.flatten_cons,List.flatten_nil,c0,c1,c2]
   first|rfl|simp[aO.cells,aQ.bn]
  ·simp only[List.map_cons,List.map_nil,List.sum_cons,List.sum_nil]at *
   first|(simp only[aO.bulk];omega)|(rw[aO.kW];simp only;omega)
end
namespace cachekeyPlain
open Go.ChangeShapes Go.WideShapes Go.ChangeAt Go.RowKit
theorem own:ownKnob Tryz.prog.godebug=none:=by kernel_rfl
theorem laidOut:laidOutB Tryz.prog=true:=by kernel_rfl
mutual
theorem Af{H:Type}:∀d:DataW H,Rows.uptoBulk d=pG d
 | .lit (.string _)=>by simp only[Rows.uptoBulk,pG]
 | .lit (.bool _)=>by simp only[Rows.uptoBulk,pG]
 | .lit (.int _ _)=>by simp only[Rows.uptoBulk,pG]
 | .lit (.float _ _)=>by simp only[Rows.uptoBulk,pG]
 | .lit .nil=>by simp only[Rows.uptoBulk,pG]
 | .nil=>by simp only[Rows.uptoBulk,pG]
 | .ptr d=>by simp only[Rows.uptoBulk,pG,Af d]
 | .slice a b=>by simp only[Rows.uptoBulk,pG,H6 a,H6 b]
 | .agg a=>by simp only[Rows.uptoBulk,pG,H6 a]
 | .iface _ d=>by simp only[Rows.uptoBulk,pG,Af d]
 | .map a=>by simp only[Rows.uptoBulk,pG,Uk a]
 | .held _=>by simp only[Rows.uptoBulk,pG]
theorem H6{H:Type}:∀l:List (DataW H),Rows.uptoBulkAll l=mQ l
 | []=>by simp only[Rows.uptoBulkAll,mQ]
 | d::r=>by simp only[Rows.uptoBulkAll,mQ,Af d,H6 r]
theorem Uk{H:Type}:∀l:List (Lit × DataW H),Rows.uptoBulkEntries l=yE l
 | []=>by simp only[Rows.uptoBulkEntries,yE]
 | x::r=>by simp only[Rows.uptoBulkEntries,yE,afu x,Uk r]
theorem afu{H:Type}:∀x:Lit × DataW H,Rows.uptoBulkEntry x=wK x
 | (.string _,d)=>by simp only[Rows.uptoBulkEntry,wK,Af d]
 | (.bool _,d)=>by simp only[Rows.uptoBulkEntry,wK,Af d]
 | (.int _ _,d)=>by simp only[Rows.uptoBulkEntry,wK,Af d]
 | (.float _ _,d)=>by simp only[Rows.uptoBulkEntry,wK,Af d]
 | (.nil,d)=>by simp only[Rows.uptoBulkEntry,wK,Af d]
end
instance aoI:gD:=amy [1] [6,7] [(0,Lib.pow10Tab.map fun z=>Value.int .u64 z)]
instance evI:CS where
 hD:=id
 max:=fun w m h=>(h.1 1 (by simp)).2
 pow:=fun w m h=>acO (g:=0) (by kernel_rfl) (by decide) fun off=>(h.2.2 (0,Lib.pow10Tab.map fun z=>Value.int .u64 z) (by simp) off).2
 syn:=fun w m h=>by
  obtain⟨_,u,v,e⟩:=h.2.1 6 (by simp)
  exact⟨_,e,.inr ⟨_,_,rfl⟩⟩
 rng:=fun w m h=>by
  obtain⟨_,u,v,e⟩:=h.2.1 7 (by simp)
  exact⟨_,e,.inr ⟨_,_,rfl⟩⟩
/-- the walk,over any arguments of the parameters' types -/
theorem walk:∀qs N,VW Tryz.prog [28] qs N→N≤1048576→AC Tryz.prog 3 qs [] fun out _=>out=.ret (.bool true):=by
 intro qs N h hN
 obtain⟨q0,qs0,A0,B0,rfl,e0,t0,g0⟩:=h
 obtain⟨cs0,rfl,u0⟩:=t0.amV ⟨_,Tryz.underlying28⟩
 obtain⟨x0,rfl,m0⟩:=ahr u0
 rw[aO.bn]
 obtain⟨rfl,e1⟩:=g0
 exact I5 _ (K_ x0 (by omega)) rfl
theorem akj{W:World}(hL:laidMet Tryz.prog [("math/bits.deBruijn32tab",Rows.laid_math_bits_deBruijn32tab),("math/bits.deBruijn64tab",Rows.laid_math_bits_deBruijn64tab),("internal/strconv.uint64pow10",Rows.laid_internal_strconv_uint64pow10),("unicode/utf8.acceptRanges",Rows.laid_unicode_utf8_acceptRanges),("strconv.ErrRange",Rows.laid_strconv_ErrRange),("strconv.ErrSyntax",Rows.laid_strconv_ErrSyntax),("unicode/utf8.first",Rows.laid_unicode_utf8_first)] W)(hS:W.ShapedOpen Tryz.prog):gD.G W (wL W):=by
 refine⟨fun g hg=>?_,fun g hg=>?_,fun p hp=>?_⟩
 ·obtain rfl:=List.mem_singleton.1 hg
  obtain⟨n,hn⟩:=Go.Proofs.cell_of_shapedOpen_int (g:=1) (zero:=#[.int .i64 0]) (t:=3) hS (of_decide_eq_true (by kernel_rfl)) (by kernel_rfl) rfl (by kernel_rfl) (by kernel_rfl) Tryz.underlying3
  exact⟨QZ hn,n,hn⟩
 ·simp only[List.mem_cons,List.not_mem_nil,or_false]at hg
  rcases hg with rfl|rfl
  ·obtain⟨u,v,e⟩:=Qu (g:=6) (t:=84) hL.tail.tail.tail.tail.tail (by kernel_rfl) (by kernel_rfl) (show Tryz.prog.underlying 84=some (.interface (Tryz.prog.methodsAt 84)) by kernel_rfl)
   exact⟨QZ e,u,v,e⟩
  ·obtain⟨u,v,e⟩:=Qu (g:=7) (t:=84) hL.tail.tail.tail.tail (by kernel_rfl) (by kernel_rfl) (show Tryz.prog.underlying 84=some (.interface (Tryz.prog.methodsAt 84)) by kernel_rfl)
   exact⟨QZ e,u,v,e⟩
 ·obtain rfl:=List.mem_singleton.1 hp
  exact abF (by kernel_rfl) (Lib.tabIs_of_head (g:=0) (t:=244) (e:=43) (n:=20) (by kernel_rfl) (by kernel_rfl) (by kernel_rfl) (by kernel_rfl) (by kernel_rfl) (by kernel_rfl) (show laidMet Tryz.prog (("internal/strconv.uint64pow10",Lib.tabData .u64 Lib.pow10Tab)::_) W from hL.tail.tail))
theorem aeO(os:Os):laidMet Tryz.prog Rows.cachekeyPlainUptoRow.laid ((World.laidAll Tryz.prog os Rows.cachekeyPlainUptoRow.laid).forCall (fun _ _=>0) ⟨#[],#[.agg #[.string ⟨#[]⟩,.slice none 0 0,.slice none 0 0,.slice none 0 0,.slice none 0 0]],[]⟩).memory:=
 laidMet_laidAll _ (by kernel_rfl) (by kernel_rfl)
theorem reads(os:Os){H:Type}(enc:TypeId × Value→H):∃places,DataW.whole enc Tryz.prog ((World.laidAll Tryz.prog os Rows.cachekeyPlainUptoRow.laid).forCall (fun _ _=>0) ⟨#[],#[.agg #[.string ⟨#[]⟩,.slice none 0 0,.slice none 0 0,.slice none 0 0,.slice none 0 0]],[]⟩).memory Tryz.f3.params.toList Rows.cachekeyPlainSpec.vars false (#[.agg #[.string ⟨#[]⟩,.slice none 0 0,.slice none 0 0,.slice none 0 0,.slice none 0 0]]:Array Value).toList 8=some ([.agg [.agg [.lit (.string []),.nil,.nil],.nil,.nil]],[],places):=
 ⟨[],by kernel_rfl⟩
set_option maxRecDepth 100000 in
theorem lifted(os:Os)(started:os.Started)(H:Type)(enc:TypeId × Value→H)(F:Stop.Interp):
  ReturnsInHanded {} Tryz.checked os 3 .any ((Rows.OpenSpec.upto Rows.cachekeyPlainSpec).preRow enc Tryz.prog Tryz.f3 Rows.cachekeyPlainUptoRow.domain false Rows.cachekeyPlainUptoRow.laid) (((Rows.OpenSpec.upto Rows.cachekeyPlainSpec).at F).post enc Tryz.prog Tryz.f3 false true false false):=by
 obtain⟨places,hx⟩:=reads os enc
 refine returnsInHanded_of_row (C:=Tryz.checked) (s:=Rows.OpenSpec.upto Rows.cachekeyPlainSpec) own started (by kernel_rfl) Tryz.func3
  (witness_row_atRef (enc:=enc) (C:=Tryz.checked) false (World.laidAll Tryz.prog os Rows.cachekeyPlainUptoRow.laid) #[.agg #[.string ⟨#[]⟩,.slice none 0 0,.slice none 0 0,.slice none 0 0,.slice none 0 0]] (World.laidAll_os _ _ _) (by kernel_rfl) (by kernel_rfl) (by kernel_rfl)
   (OpenSpec.preRow_of_cond 8 hx (by kernel_rfl) (fun k hk=>by cases hk;kernel_rfl) (by kernel_rfl) (by rw[MakeChecks.laidMetH_plain _ _ _ (by kernel_rfl)];exact aeO os))) ?_
 intro W base args ds gs before hval hW _ hcond _ hlaid hshape _
 rw[MakeChecks.laidMetH_plain _ _ _ (by kernel_rfl)]at hlaid
 have hk:=hcond _ rfl
 have hk2:mQ (ds++gs)≤1048576:=by
  have:=of_decide_eq_true hk
  rw[H6]at this
  exact this
 have hgs:gs=[]:=by
  obtain⟨p,q,hA,hV,rfl,hfz,hnd⟩:=hW
  cases gs with
  | nil=>rfl
  | cons g gs=>exact hV.elim
 subst hgs
 rw[List.append_nil]at hk2
 refine acg (P:=Tryz.prog) (S:=[3,4,9,22,24,25,26,28,33,35,37,44,63]) (tb:=4) (by kernel_rfl) (by rw[Tryz.params3];decide) (by rw[Tryz.params3];exact of_decide_eq_true (by kernel_rfl)) laidOut (by kernel_rfl) Tryz.underlying4 rfl ?_ (fun qs N h hN=>by rw[Tryz.params3]at h;exact walk qs N h (by omega)) hval hW (akj hlaid hshape)
 rw[Tryz.params3]
 intro ds hd
 match ds,hd with
 | [d0],_=>rfl
end cachekeyPlain
end Go.Proofs.YtchmdnpcppkdpaaGreatDoor
