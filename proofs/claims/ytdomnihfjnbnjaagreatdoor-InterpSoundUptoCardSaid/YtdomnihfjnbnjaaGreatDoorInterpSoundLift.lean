/- Proved here: the walk of InterpSound, at the arguments of the row. -/
import Derived.Test.YtdomnihfjnbnjaaGreatDoorSdWalk2
import Derived.Test.YtdomnihfjnbnjaaGreatDoorSdPlain4
import Derived.Test.YtdomnihfjnbnjaaGreatDoorRows
import Derived.Test.YtdomnihfjnbnjaaGreatDoorCards
import Derived.Test.YtdomnihfjnbnjaaGreatDoorTie
import Derived.WalkKit
import Derived.ProofKit
import Derived.OpenShut
import Derived.JoinedCond
import Derived.Deep.DeepHandedRow
import Derived.Deep.DeepWitnessRowRef
import Derived.Lay
import Derived.SevenTiedAt
import Derived.MakeChecks
set_option linter.unusedVariables false
set_option linter.unusedSimpArgs false
set_option linter.unusedSectionVars false
namespace Go.Proofs.YtdomnihfjnbnjaaGreatDoor
open Go Go.Abs Go.Ft
section
variable [gQ]
theorem Yt{c:List PV}{N:Nat}(h:F9 Tryz.prog 9 c N):∃x:Str,c=[.str x]∧(x.length+1)≤N:=by
 obtain⟨s,rfl,rfl⟩:=h.akU Tryz.underlying9
 exact⟨s,rfl,Nat.le_refl _⟩
theorem aib{c:List PV}{N:Nat}(h:F9 Tryz.prog 3 c N):∃x:Int,c=[.int .i64 x]∧1≤N:=by
 obtain⟨n,rfl,hw,rfl⟩:=h.alH Tryz.underlying3
 exact⟨n,rfl,Nat.le_refl _⟩
theorem aog{c:List PV}{N:Nat}(h:F9 Tryz.prog 4 c N):∃x:Bool,c=[.bool x]∧1≤N:=by
 obtain⟨b,rfl,rfl⟩:=h.aeI Tryz.underlying4
 exact⟨b,rfl,Nat.le_refl _⟩
theorem alp{c:List PV}{N:Nat}(h:F9 Tryz.prog 27 c N):∃x:List Str,c=[.list (List.map kg x)]∧((List.map (fun z:Str=>(z.length+1)) x).sum+1)≤N:=by
 obtain⟨l,rfl,rfl,hl⟩:=h.Po Tryz.underlying27
 obtain⟨xs,h1,h2⟩:=Oi (f:=kg) (μ:=fun z:Str=>(z.length+1)) fun x hx=>Yt (hl x hx)
 exact⟨xs,by rw[h1],by omega⟩
theorem alo:∀ {c:List PV} {N:Nat} (h:F9 Tryz.prog 29 c N),∃x:ah,c=ah.cells x∧(ah.bulk x)≤N:=by
 have key:∀(M:Nat) {c:List PV},F9 Tryz.prog 29 c M→∃x:ah,c=ah.cells x∧(ah.bulk x)≤M:=by
  intro M
  induction M using Nat.strongRecOn with
  | _ M ih=>
   intro c h
   obtain⟨ps,rfl,hNe,hlen,hz⟩:=h.X8 Tryz.underlying29
   match ps,hlen with
   | [p0,p1,p2,p3,p4,p5],_=>
    have hN:=hNe
    simp only[List.map_cons,List.map_nil,List.sum_cons,List.sum_nil]at hN
    have k0:F9 Tryz.prog 3 p0.1 p0.2:=hz _ (List.mem_of_getElem? (i:=0) rfl)
    obtain⟨x0,c0,b0⟩:=aib k0
    have k1:F9 Tryz.prog 4 p1.1 p1.2:=hz _ (List.mem_of_getElem? (i:=1) rfl)
    obtain⟨x1,c1,b1⟩:=aog k1
    have k2:F9 Tryz.prog 3 p2.1 p2.2:=hz _ (List.mem_of_getElem? (i:=2) rfl)
    obtain⟨x2,c2,b2⟩:=aib k2
    have k3:F9 Tryz.prog 9 p3.1 p3.2:=hz _ (List.mem_of_getElem? (i:=3) rfl)
    obtain⟨x3,c3,b3⟩:=Yt k3
    have k4:F9 Tryz.prog 26 p4.1 p4.2:=hz _ (List.mem_of_getElem? (i:=4) rfl)
    obtain⟨l4,e4,m4,hl4⟩:=k4.Po Tryz.underlying26
    have asj:∀x∈l4,x.2≤(l4.map (·.2)).sum:=fun x hx=>aiz hx
    obtain⟨as4,q4,r4⟩:=Oi (f:=ah.cells) (μ:=ah.bulk) fun x hx=>ih x.2 (by have:=asj x hx;omega) (hl4 x hx)
    obtain⟨x4,c4,b4⟩:∃x:List ah,p4.1=[.list (ah.bq x)]∧ah.kZ x+1≤p4.2:=⟨as4,by rw[e4,q4,ah.bA],by rw[ah.pX];omega⟩
    have k5:F9 Tryz.prog 27 p5.1 p5.2:=hz _ (List.mem_of_getElem? (i:=5) rfl)
    obtain⟨x5,c5,b5⟩:=alp k5
    refine⟨⟨x0,x1,x2,x3,x4,x5⟩,?_,?_⟩
    ·simp only[List.map_cons,List.map_nil,List.flatten_cons,List.flatten_nil,c0,c1,c2,c3,c4,c5]
     first|rfl|simp[ah.cells]
    ·simp only[List.map_cons,List.map_nil,List.sum_cons,List.sum_nil]at *
     first|(simp only[ah.bulk];omega)|(rw[ah.nN];simp only;omega)
 intro c N h
 exact key N h
theorem aln{c:List PV}{N:Nat}(h:F9 Tryz.prog 31 c N):∃x:aF,c=aF.cells x∧(aF.bulk x)≤N:=by
 obtain⟨ps,rfl,rfl,hlen,hz⟩:=h.X8 Tryz.underlying31
 match ps,hlen with
 | [p0,p1],_=>
  have k0:F9 Tryz.prog 9 p0.1 p0.2:=hz _ (List.mem_of_getElem? (i:=0) rfl)
  obtain⟨x0,c0,b0⟩:=Yt k0
  have k1:F9 Tryz.prog 29 p1.1 p1.2:=hz _ (List.mem_of_getElem? (i:=1) rfl)
  obtain⟨x1,c1,b1⟩:=alo k1
  refine⟨⟨x0,x1⟩,?_,?_⟩
  ·simp only[List.map_cons,List.map_nil,List.flatten_cons,List.flatten_nil,c0,c1]
   first|rfl|simp[aF.cells,ah.aQ]
  ·simp only[List.map_cons,List.map_nil,List.sum_cons,List.sum_nil]at *
   first|(simp only[aF.bulk];omega)|(rw[aF.nN];simp only;omega)
theorem alq{c:List PV}{N:Nat}(h:F9 Tryz.prog 22 c N):∃x:List aF,c=[.list (List.map aF.cells x)]∧((List.map (fun z:aF=>(aF.bulk z)) x).sum+1)≤N:=by
 obtain⟨l,rfl,rfl,hl⟩:=h.Po Tryz.underlying22
 obtain⟨xs,h1,h2⟩:=Oi (f:=aF.cells) (μ:=fun z:aF=>(aF.bulk z)) fun x hx=>aln (hl x hx)
 exact⟨xs,by rw[h1],by omega⟩
end
namespace interpSound
open Go.ChangeShapes Go.WideShapes Go.ChangeAt Go.RowKit
theorem own:ownKnob Tryz.prog.godebug=none:=by kernel_rfl
theorem laidOut:laidOutB Tryz.prog=true:=by kernel_rfl
mutual
theorem Cz{H:Type}:∀d:DataW H,Rows.uptoBulk d=qV d
 | .lit (.string _)=>by simp only[Rows.uptoBulk,qV]
 | .lit (.bool _)=>by simp only[Rows.uptoBulk,qV]
 | .lit (.int _ _)=>by simp only[Rows.uptoBulk,qV]
 | .lit (.float _ _)=>by simp only[Rows.uptoBulk,qV]
 | .lit .nil=>by simp only[Rows.uptoBulk,qV]
 | .nil=>by simp only[Rows.uptoBulk,qV]
 | .ptr d=>by simp only[Rows.uptoBulk,qV,Cz d]
 | .slice a b=>by simp only[Rows.uptoBulk,qV,KI a,KI b]
 | .agg a=>by simp only[Rows.uptoBulk,qV,KI a]
 | .iface _ d=>by simp only[Rows.uptoBulk,qV,Cz d]
 | .map a=>by simp only[Rows.uptoBulk,qV,XG a]
 | .held _=>by simp only[Rows.uptoBulk,qV]
theorem KI{H:Type}:∀l:List (DataW H),Rows.uptoBulkAll l=oo l
 | []=>by simp only[Rows.uptoBulkAll,oo]
 | d::r=>by simp only[Rows.uptoBulkAll,oo,Cz d,KI r]
theorem XG{H:Type}:∀l:List (Lit × DataW H),Rows.uptoBulkEntries l=Ai l
 | []=>by simp only[Rows.uptoBulkEntries,Ai]
 | x::r=>by simp only[Rows.uptoBulkEntries,Ai,ajs x,XG r]
theorem ajs{H:Type}:∀x:Lit × DataW H,Rows.uptoBulkEntry x=yJ x
 | (.string _,d)=>by simp only[Rows.uptoBulkEntry,yJ,Cz d]
 | (.bool _,d)=>by simp only[Rows.uptoBulkEntry,yJ,Cz d]
 | (.int _ _,d)=>by simp only[Rows.uptoBulkEntry,yJ,Cz d]
 | (.float _ _,d)=>by simp only[Rows.uptoBulkEntry,yJ,Cz d]
 | (.nil,d)=>by simp only[Rows.uptoBulkEntry,yJ,Cz d]
end
instance atj:gQ:=aqL [0] [6,7] [(3,Lib.pow10Tab.map fun z=>Value.int .u64 z)]
instance evI:D8 where
 hD:=id
 max:=fun w m h=>(h.1 0 (by simp)).2
 pow:=fun w m h=>agk (g:=3) (by kernel_rfl) (by decide) fun off=>(h.2.2 (3,Lib.pow10Tab.map fun z=>Value.int .u64 z) (by simp) off).2
 syn:=fun w m h=>by
  obtain⟨_,u,v,e⟩:=h.2.1 6 (by simp)
  exact⟨_,e,.inr ⟨_,_,rfl⟩⟩
 rng:=fun w m h=>by
  obtain⟨_,u,v,e⟩:=h.2.1 7 (by simp)
  exact⟨_,e,.inr ⟨_,_,rfl⟩⟩
/-- the walk,over any arguments of the parameters' types -/
theorem walk:∀qs N,Zc Tryz.prog [9,22] qs N→N≤1048576→AC Tryz.prog 3 qs [] fun out _=>out=.ret (.bool true):=by
 intro qs N h hN
 obtain⟨q0,qs0,A0,B0,rfl,e0,t0,g0⟩:=h
 have u0:=t0.ach (by rw[Tryz.underlying9];simp) (by rw[Tryz.underlying9];simp)
 obtain⟨x0,hx0,m0⟩:=Yt u0
 simp only[List.cons.injEq,and_true]at hx0
 subst hx0
 obtain⟨q1,qs1,A1,B1,rfl,e1,t1,g1⟩:=g0
 have u1:=t1.ach (by rw[Tryz.underlying22];simp) (by rw[Tryz.underlying22];simp)
 obtain⟨x1,hx1,m1⟩:=alq u1
 simp only[List.cons.injEq,and_true]at hx1
 subst hx1
 obtain⟨rfl,e2⟩:=g1
 exact OW _ _ (Rv x0 x1 (by omega)) rfl
theorem aoz{W:World}(hL:laidMet Tryz.prog [("math/bits.deBruijn32tab",Rows.laid_math_bits_deBruijn32tab),("math/bits.deBruijn64tab",Rows.laid_math_bits_deBruijn64tab),("internal/strconv.uint64pow10",Rows.laid_internal_strconv_uint64pow10),("unicode/utf8.acceptRanges",Rows.laid_unicode_utf8_acceptRanges),("strconv.ErrRange",Rows.laid_strconv_ErrRange),("strconv.ErrSyntax",Rows.laid_strconv_ErrSyntax),("unicode/utf8.first",Rows.laid_unicode_utf8_first)] W)(hS:W.ShapedOpen Tryz.prog):gQ.G W (yK W):=by
 refine⟨fun g hg=>?_,fun g hg=>?_,fun p hp=>?_⟩
 ·obtain rfl:=List.mem_singleton.1 hg
  obtain⟨n,hn⟩:=Go.Proofs.cell_of_shapedOpen_int (g:=0) (zero:=#[.int .i64 0]) (t:=3) hS (of_decide_eq_true (by kernel_rfl)) (by kernel_rfl) rfl (by kernel_rfl) (by kernel_rfl) Tryz.underlying3
  exact⟨UK hn,n,hn⟩
 ·simp only[List.mem_cons,List.not_mem_nil,or_false]at hg
  rcases hg with rfl|rfl
  ·obtain⟨u,v,e⟩:=Ud (g:=6) (t:=71) hL.tail.tail.tail.tail.tail (by kernel_rfl) (by kernel_rfl) (show Tryz.prog.underlying 71=some (.interface (Tryz.prog.methodsAt 71)) by kernel_rfl)
   exact⟨UK e,u,v,e⟩
  ·obtain⟨u,v,e⟩:=Ud (g:=7) (t:=71) hL.tail.tail.tail.tail (by kernel_rfl) (by kernel_rfl) (show Tryz.prog.underlying 71=some (.interface (Tryz.prog.methodsAt 71)) by kernel_rfl)
   exact⟨UK e,u,v,e⟩
 ·obtain rfl:=List.mem_singleton.1 hp
  exact ae6 (by kernel_rfl) (Lib.tabIs_of_head (g:=3) (t:=271) (e:=201) (n:=20) (by kernel_rfl) (by kernel_rfl) (by kernel_rfl) (by kernel_rfl) (by kernel_rfl) (by kernel_rfl) (show laidMet Tryz.prog (("internal/strconv.uint64pow10",Lib.tabData .u64 Lib.pow10Tab)::_) W from hL.tail.tail))
theorem aiB(os:Os):laidMet Tryz.prog Rows.interpSoundUptoRow.laid ((World.laidAll Tryz.prog os Rows.interpSoundUptoRow.laid).forCall (fun _ _=>0) ⟨#[],#[.string ⟨#[]⟩,.slice none 0 0],[]⟩).memory:=
 laidMet_laidAll _ (by kernel_rfl) (by kernel_rfl)
theorem reads(os:Os){H:Type}(enc:TypeId × Value→H):∃places,DataW.whole enc Tryz.prog ((World.laidAll Tryz.prog os Rows.interpSoundUptoRow.laid).forCall (fun _ _=>0) ⟨#[],#[.string ⟨#[]⟩,.slice none 0 0],[]⟩).memory Tryz.f3.params.toList Rows.interpSoundSpec.vars false (#[.string ⟨#[]⟩,.slice none 0 0]:Array Value).toList 8=some ([.lit (.string []),.nil],[],places):=
 ⟨[],by kernel_rfl⟩
set_option maxRecDepth 100000 in
theorem lifted(os:Os)(started:os.Started)(H:Type)(enc:TypeId × Value→H)(F:Stop.Interp):
  ReturnsInHanded {} Tryz.checked os 3 .any ((Rows.OpenSpec.upto Rows.interpSoundSpec).preRow enc Tryz.prog Tryz.f3 Rows.interpSoundUptoRow.domain false Rows.interpSoundUptoRow.laid) (((Rows.OpenSpec.upto Rows.interpSoundSpec).at F).post enc Tryz.prog Tryz.f3 false true false false):=by
 obtain⟨places,hx⟩:=reads os enc
 refine returnsInHanded_of_row (C:=Tryz.checked) (s:=Rows.OpenSpec.upto Rows.interpSoundSpec) own started (by kernel_rfl) Tryz.func3
  (witness_row_atRef (enc:=enc) (C:=Tryz.checked) false (World.laidAll Tryz.prog os Rows.interpSoundUptoRow.laid) #[.string ⟨#[]⟩,.slice none 0 0] (World.laidAll_os _ _ _) (by kernel_rfl) (by kernel_rfl) (by kernel_rfl)
   (OpenSpec.preRow_of_cond 8 hx (by kernel_rfl) (fun k hk=>by cases hk;kernel_rfl) (by kernel_rfl) (by rw[MakeChecks.laidMetH_plain _ _ _ (by kernel_rfl)];exact aiB os))) ?_
 intro W base args ds gs before hval hW _ hcond _ hlaid hshape _
 rw[MakeChecks.laidMetH_plain _ _ _ (by kernel_rfl)]at hlaid
 have hk:=hcond _ rfl
 have hk2:oo (ds++gs)≤1048576:=by
  have:=of_decide_eq_true hk
  rw[KI]at this
  exact this
 have hgs:gs=[]:=by
  obtain⟨p,q,hA,hV,rfl,hfz,hnd⟩:=hW
  cases gs with
  | nil=>rfl
  | cons g gs=>exact hV.elim
 subst hgs
 rw[List.append_nil]at hk2
 refine afJ (P:=Tryz.prog) (S:=[3,4,9,22,26,27,29,31]) (tb:=4) (by kernel_rfl) (by rw[Tryz.params3];decide) (by rw[Tryz.params3];exact of_decide_eq_true (by kernel_rfl)) laidOut (by kernel_rfl) Tryz.underlying4 rfl ?_ (fun qs N h hN=>by rw[Tryz.params3]at h;exact walk qs N h (by omega)) hval hW (aoz hlaid hshape)
 rw[Tryz.params3]
 intro ds hd
 match ds,hd with
 | [d0,d1],_=>rfl
end interpSound
end Go.Proofs.YtdomnihfjnbnjaaGreatDoor
