/- Proved here: the walk of AgentExpires, at the arguments of the row. -/
import Derived.Test.YtdgljcpjcgldfaaGreatDoorAgWalk1
import Derived.Test.YtdgljcpjcgldfaaGreatDoorAgWalk2
import Derived.Test.YtdgljcpjcgldfaaGreatDoorAgPlain1
import Derived.Test.YtdgljcpjcgldfaaGreatDoorAgPlain2
import Derived.Test.YtdgljcpjcgldfaaGreatDoorRows
import Derived.Test.YtdgljcpjcgldfaaGreatDoorCards
import Derived.Test.YtdgljcpjcgldfaaGreatDoorTie
import Derived.WalkKit
import Derived.ProofKit
import Derived.OpenShut
import Derived.JoinedCond
import Derived.Deep.DeepHandedRow
import Derived.Deep.DeepWitnessRowRef
import Derived.Lay
import Derived.SevenTiedAt
import Derived.MakeChecks
set_option linter.unusedVariables false
set_option linter.unusedSimpArgs false
set_option linter.unusedSectionVars false
namespace Go.Proofs.YtdgljcpjcgldfaaGreatDoor
open Go Go.Abs Go.Ft
section
variable [cZ]
theorem bJ {c:List PV} {N:Nat} (h:aS Tryz.prog 9 c N):∃ x:Str,c=[.str x]∧(x.length + 1)≤N∧True:=by
 obtain ⟨s,rfl,rfl⟩:=h.DK Tryz.underlying9
 exact ⟨s,rfl,Nat.le_refl _,trivial⟩
theorem bP {c:List PV} {N:Nat} (h:aS Tryz.prog 22 c N):∃ x:List Str,c=[.list (List.map aY x)]∧((List.map (fun z:Str=>(z.length + 1)) x).sum + 1)≤N∧(∀ z∈x,True):=by
 obtain ⟨l,rfl,rfl,hl⟩:=h.dM Tryz.underlying22
 obtain ⟨xs,h1,h2,h3⟩:=bV (f:=aY) (μ:=fun z:Str=>(z.length + 1)) (p:=fun z:Str=>True) fun x hx=>bJ (hl x hx)
 exact ⟨xs,by rw [h1],by omega,h3⟩
theorem aP {c:List PV} {N:Nat} (h:aS Tryz.prog 3 c N):∃ x:Int,c=[.int .i64 x]∧1≤N∧(-9223372036854775808≤x∧x≤9223372036854775807):=by
 obtain ⟨n,rfl,hw,rfl⟩:=h.Bw Tryz.underlying3
 exact ⟨n,rfl,Nat.le_refl _,wf_i64 hw⟩
theorem iA {c:List PV} {N:Nat} (h:aS Tryz.prog 4 c N):∃ x:Bool,c=[.bool x]∧1≤N∧True:=by
 obtain ⟨b,rfl,rfl⟩:=h.A8 Tryz.underlying4
 exact ⟨b,rfl,Nat.le_refl _,trivial⟩
theorem qJ {c:List PV} {N:Nat} (h:aS Tryz.prog 23 c N):∃ x:List Int,c=[.list (List.map je x)]∧((List.map (fun z:Int=>1) x).sum + 1)≤N∧(∀ z∈x,(-9223372036854775808≤z∧z≤9223372036854775807)):=by
 obtain ⟨l,rfl,rfl,hl⟩:=h.dM Tryz.underlying23
 obtain ⟨xs,h1,h2,h3⟩:=bV (f:=je) (μ:=fun z:Int=>1) (p:=fun z:Int=>(-9223372036854775808≤z∧z≤9223372036854775807)) fun x hx=>aP (hl x hx)
 exact ⟨xs,by rw [h1],by omega,h3⟩
theorem yA {c:List PV} {N:Nat} (h:aS Tryz.prog 25 c N):∃ x:aI,c=aI.cells x∧(aI.bulk x)≤N∧(aI.wf x):=by
 obtain ⟨ps,rfl,rfl,hlen,hz⟩:=h.bE Tryz.underlying25
 match ps,hlen with
 | [p0,p1,p2,p3,p4,p5,p6,p7,p8],_=>
  have k0:aS Tryz.prog 9 p0.1 p0.2:=hz _ (List.mem_of_getElem? (i:=0) rfl)
  obtain ⟨x0,c0,b0,w0⟩:=bJ k0
  have k1:aS Tryz.prog 22 p1.1 p1.2:=hz _ (List.mem_of_getElem? (i:=1) rfl)
  obtain ⟨x1,c1,b1,w1⟩:=bP k1
  have k2:aS Tryz.prog 3 p2.1 p2.2:=hz _ (List.mem_of_getElem? (i:=2) rfl)
  obtain ⟨x2,c2,b2,w2⟩:=aP k2
  have k3:aS Tryz.prog 3 p3.1 p3.2:=hz _ (List.mem_of_getElem? (i:=3) rfl)
  obtain ⟨x3,c3,b3,w3⟩:=aP k3
  have k4:aS Tryz.prog 4 p4.1 p4.2:=hz _ (List.mem_of_getElem? (i:=4) rfl)
  obtain ⟨x4,c4,b4,w4⟩:=iA k4
  have k5:aS Tryz.prog 3 p5.1 p5.2:=hz _ (List.mem_of_getElem? (i:=5) rfl)
  obtain ⟨x5,c5,b5,w5⟩:=aP k5
  have k6:aS Tryz.prog 3 p6.1 p6.2:=hz _ (List.mem_of_getElem? (i:=6) rfl)
  obtain ⟨x6,c6,b6,w6⟩:=aP k6
  have k7:aS Tryz.prog 3 p7.1 p7.2:=hz _ (List.mem_of_getElem? (i:=7) rfl)
  obtain ⟨x7,c7,b7,w7⟩:=aP k7
  have k8:aS Tryz.prog 23 p8.1 p8.2:=hz _ (List.mem_of_getElem? (i:=8) rfl)
  obtain ⟨x8,c8,b8,w8⟩:=qJ k8
  refine ⟨⟨x0,x1,x2,x3,x4,x5,x6,x7,x8⟩,?_,?_,⟨w0,w1,w2,w3,w4,w5,w6,w7,w8⟩⟩
  ·
   simp only [List.map_cons,List.map_nil,List.flatten_cons,List.flatten_nil,c0,c1,c2,c3,c4,c5,c6,c7,c8]
   first | rfl | simp [aI.cells]
  ·
   simp only [List.map_cons,List.map_nil,List.sum_cons,List.sum_nil] at *
   first | (simp only [aI.bulk]; omega) | (rw [aI.bH]; simp only; omega)
theorem yu {c:List PV} {N:Nat} (h:aS Tryz.prog 46 c N):∃ x:aK,c=aK.cells x∧(aK.bulk x)≤N∧(aK.wf x):=by
 obtain ⟨ps,rfl,rfl,hlen,hz⟩:=h.bE Tryz.underlying46
 match ps,hlen with
 | [p0,p1],_=>
  have k0:aS Tryz.prog 9 p0.1 p0.2:=hz _ (List.mem_of_getElem? (i:=0) rfl)
  obtain ⟨x0,c0,b0,w0⟩:=bJ k0
  have k1:aS Tryz.prog 9 p1.1 p1.2:=hz _ (List.mem_of_getElem? (i:=1) rfl)
  obtain ⟨x1,c1,b1,w1⟩:=bJ k1
  refine ⟨⟨x0,x1⟩,?_,?_,⟨w0,w1⟩⟩
  ·
   simp only [List.map_cons,List.map_nil,List.flatten_cons,List.flatten_nil,c0,c1]
   first | rfl | simp [aK.cells]
  ·
   simp only [List.map_cons,List.map_nil,List.sum_cons,List.sum_nil] at *
   first | (simp only [aK.bulk]; omega) | (rw [aK.bH]; simp only; omega)
theorem xW {c:List PV} {N:Nat} (h:aS Tryz.prog 68 c N):∃ x:bn,c=bn.cells x∧(bn.bulk x)≤N∧(bn.wf x):=by
 obtain ⟨ps,rfl,rfl,hlen,hz⟩:=h.bE Tryz.underlying68
 match ps,hlen with
 | [p0,p1,p2,p3,p4,p5],_=>
  have k0:aS Tryz.prog 3 p0.1 p0.2:=hz _ (List.mem_of_getElem? (i:=0) rfl)
  obtain ⟨x0,c0,b0,w0⟩:=aP k0
  have k1:aS Tryz.prog 46 p1.1 p1.2:=hz _ (List.mem_of_getElem? (i:=1) rfl)
  obtain ⟨x1,c1,b1,w1⟩:=yu k1
  have k2:aS Tryz.prog 3 p2.1 p2.2:=hz _ (List.mem_of_getElem? (i:=2) rfl)
  obtain ⟨x2,c2,b2,w2⟩:=aP k2
  have k3:aS Tryz.prog 9 p3.1 p3.2:=hz _ (List.mem_of_getElem? (i:=3) rfl)
  obtain ⟨x3,c3,b3,w3⟩:=bJ k3
  have k4:aS Tryz.prog 3 p4.1 p4.2:=hz _ (List.mem_of_getElem? (i:=4) rfl)
  obtain ⟨x4,c4,b4,w4⟩:=aP k4
  have k5:aS Tryz.prog 3 p5.1 p5.2:=hz _ (List.mem_of_getElem? (i:=5) rfl)
  obtain ⟨x5,c5,b5,w5⟩:=aP k5
  refine ⟨⟨x0,x1,x2,x3,x4,x5⟩,?_,?_,⟨w0,w1,w2,w3,w4,w5⟩⟩
  ·
   simp only [List.map_cons,List.map_nil,List.flatten_cons,List.flatten_nil,c0,c1,c2,c3,c4,c5]
   first | rfl | simp [bn.cells,aK.ay]
  ·
   simp only [List.map_cons,List.map_nil,List.sum_cons,List.sum_nil] at *
   first | (simp only [bn.bulk]; omega) | (rw [bn.bH]; simp only; omega)
theorem qH :∀ {c:List PV} {N:Nat} (h:aS Tryz.prog 71 c N),∃ x:aD,c=aD.cells x∧(aD.bulk x)≤N∧True:=by
 have key:∀ (M:Nat) {c:List PV},aS Tryz.prog 71 c M→∃ x:aD,c=aD.cells x∧(aD.bulk x)≤M:=by
  intro M
  induction M using Nat.strongRecOn with
  | _ M ih=>
   intro c h
   obtain ⟨ps,rfl,hNe,hlen,hz⟩:=h.bE Tryz.underlying71
   match ps,hlen with
   | [p0,p1,p2,p3,p4,p5],_=>
    have hN:=hNe
    simp only [List.map_cons,List.map_nil,List.sum_cons,List.sum_nil] at hN
    have k0:aS Tryz.prog 3 p0.1 p0.2:=hz _ (List.mem_of_getElem? (i:=0) rfl)
    obtain ⟨x0,c0,b0,w0⟩:=aP k0
    have k1:aS Tryz.prog 4 p1.1 p1.2:=hz _ (List.mem_of_getElem? (i:=1) rfl)
    obtain ⟨x1,c1,b1,w1⟩:=iA k1
    have k2:aS Tryz.prog 3 p2.1 p2.2:=hz _ (List.mem_of_getElem? (i:=2) rfl)
    obtain ⟨x2,c2,b2,w2⟩:=aP k2
    have k3:aS Tryz.prog 9 p3.1 p3.2:=hz _ (List.mem_of_getElem? (i:=3) rfl)
    obtain ⟨x3,c3,b3,w3⟩:=bJ k3
    have k4:aS Tryz.prog 69 p4.1 p4.2:=hz _ (List.mem_of_getElem? (i:=4) rfl)
    obtain ⟨l4,e4,m4,hl4⟩:=k4.dM Tryz.underlying69
    have G8:∀ x∈l4,x.2≤(l4.map (·.2)).sum:=fun x hx=>uL hx
    obtain ⟨LP,q4,r4⟩:=om (f:=aD.cells) (μ:=aD.bulk) fun x hx=>ih x.2 (by have:=G8 x hx; omega) (hl4 x hx)
    have w4:=True.intro
    obtain ⟨x4,c4,b4⟩:∃ x:List aD,p4.1=[.list (aD.bW x)]∧aD.kC x + 1≤p4.2:=⟨LP,by rw [e4,q4,aD.jS],by rw [aD.lD]; omega⟩
    have k5:aS Tryz.prog 22 p5.1 p5.2:=hz _ (List.mem_of_getElem? (i:=5) rfl)
    obtain ⟨x5,c5,b5,w5⟩:=bP k5
    refine ⟨⟨x0,x1,x2,x3,x4,x5⟩,?_,?_⟩
    ·
     simp only [List.map_cons,List.map_nil,List.flatten_cons,List.flatten_nil,c0,c1,c2,c3,c4,c5]
     first | rfl | simp [aD.cells]
    ·
     simp only [List.map_cons,List.map_nil,List.sum_cons,List.sum_nil] at *
     first | (simp only [aD.bulk]; omega) | (rw [aD.bH]; simp only; omega)
 intro c N h
 exact let ⟨x,a,b⟩:=key N h; ⟨x,a,b,trivial⟩
theorem xV :∀ {c:List PV} {N:Nat} (h:aS Tryz.prog 74 c N),∃ x:aL,c=aL.cells x∧(aL.bulk x)≤N∧True:=by
 have key:∀ (M:Nat) {c:List PV},aS Tryz.prog 74 c M→∃ x:aL,c=aL.cells x∧(aL.bulk x)≤M:=by
  intro M
  induction M using Nat.strongRecOn with
  | _ M ih=>
   intro c h
   obtain ⟨ps,rfl,hNe,hlen,hz⟩:=h.bE Tryz.underlying74
   match ps,hlen with
   | [p0,p1,p2,p3,p4],_=>
    have hN:=hNe
    simp only [List.map_cons,List.map_nil,List.sum_cons,List.sum_nil] at hN
    have k0:aS Tryz.prog 3 p0.1 p0.2:=hz _ (List.mem_of_getElem? (i:=0) rfl)
    obtain ⟨x0,c0,b0,w0⟩:=aP k0
    have k1:aS Tryz.prog 9 p1.1 p1.2:=hz _ (List.mem_of_getElem? (i:=1) rfl)
    obtain ⟨x1,c1,b1,w1⟩:=bJ k1
    have k2:aS Tryz.prog 71 p2.1 p2.2:=hz _ (List.mem_of_getElem? (i:=2) rfl)
    obtain ⟨x2,c2,b2,w2⟩:=qH k2
    have k3:aS Tryz.prog 72 p3.1 p3.2:=hz _ (List.mem_of_getElem? (i:=3) rfl)
    obtain ⟨l3,e3,m3,hl3⟩:=k3.dM Tryz.underlying72
    have hle3:∀ x∈l3,x.2≤(l3.map (·.2)).sum:=fun x hx=>uL hx
    obtain ⟨LQ,q3,r3⟩:=om (f:=aL.cells) (μ:=aL.bulk) fun x hx=>ih x.2 (by have:=hle3 x hx; omega) (hl3 x hx)
    have w3:=True.intro
    obtain ⟨x3,c3,b3⟩:∃ x:List aL,p3.1=[.list (aL.bW x)]∧aL.kC x + 1≤p3.2:=⟨LQ,by rw [e3,q3,aL.jS],by rw [aL.lD]; omega⟩
    have k4:aS Tryz.prog 22 p4.1 p4.2:=hz _ (List.mem_of_getElem? (i:=4) rfl)
    obtain ⟨x4,c4,b4,w4⟩:=bP k4
    refine ⟨⟨x0,x1,x2,x3,x4⟩,?_,?_⟩
    ·
     simp only [List.map_cons,List.map_nil,List.flatten_cons,List.flatten_nil,c0,c1,c2,c3,c4]
     first | rfl | simp [aL.cells,aD.ay]
    ·
     simp only [List.map_cons,List.map_nil,List.sum_cons,List.sum_nil] at *
     first | (simp only [aL.bulk]; omega) | (rw [aL.bH]; simp only; omega)
 intro c N h
 exact let ⟨x,a,b⟩:=key N h; ⟨x,a,b,trivial⟩
theorem uy {c:List PV} {N:Nat} (h:aS Tryz.prog 224 c N):∃ x:aX,c=aX.cells x∧(aX.bulk x)≤N∧(aX.wf x):=by
 obtain ⟨ps,rfl,rfl,hlen,hz⟩:=h.bE Tryz.underlying224
 match ps,hlen with
 | [p0,p1],_=>
  have k0:aS Tryz.prog 9 p0.1 p0.2:=hz _ (List.mem_of_getElem? (i:=0) rfl)
  obtain ⟨x0,c0,b0,w0⟩:=bJ k0
  have k1:aS Tryz.prog 71 p1.1 p1.2:=hz _ (List.mem_of_getElem? (i:=1) rfl)
  obtain ⟨x1,c1,b1,w1⟩:=qH k1
  refine ⟨⟨x0,x1⟩,?_,?_,⟨w0,w1⟩⟩
  ·
   simp only [List.map_cons,List.map_nil,List.flatten_cons,List.flatten_nil,c0,c1]
   first | rfl | simp [aX.cells,aD.ay]
  ·
   simp only [List.map_cons,List.map_nil,List.sum_cons,List.sum_nil] at *
   first | (simp only [aX.bulk]; omega) | (rw [aX.bH]; simp only; omega)
theorem yh {c:List PV} {N:Nat} (h:aS Tryz.prog 49 c N):∃ x:List aX,c=[.list (List.map aX.cells x)]∧((List.map (fun z:aX=>(aX.bulk z)) x).sum + 1)≤N∧(∀ z∈x,(aX.wf z)):=by
 obtain ⟨l,rfl,rfl,hl⟩:=h.dM Tryz.underlying49
 obtain ⟨xs,h1,h2,h3⟩:=bV (f:=aX.cells) (μ:=fun z:aX=>(aX.bulk z)) (p:=fun z:aX=>(aX.wf z)) fun x hx=>uy (hl x hx)
 exact ⟨xs,by rw [h1],by omega,h3⟩
theorem uD {c:List PV} {N:Nat} (h:aS Tryz.prog 196 c N):∃ x:aQ,c=aQ.cells x∧(aQ.bulk x)≤N∧(aQ.wf x):=by
 obtain ⟨ps,rfl,rfl,hlen,hz⟩:=h.bE Tryz.underlying196
 match ps,hlen with
 | [p0,p1,p2,p3],_=>
  have k0:aS Tryz.prog 3 p0.1 p0.2:=hz _ (List.mem_of_getElem? (i:=0) rfl)
  obtain ⟨x0,c0,b0,w0⟩:=aP k0
  have k1:aS Tryz.prog 9 p1.1 p1.2:=hz _ (List.mem_of_getElem? (i:=1) rfl)
  obtain ⟨x1,c1,b1,w1⟩:=bJ k1
  have k2:aS Tryz.prog 9 p2.1 p2.2:=hz _ (List.mem_of_getElem? (i:=2) rfl)
  obtain ⟨x2,c2,b2,w2⟩:=bJ k2
  have k3:aS Tryz.prog 3 p3.1 p3.2:=hz _ (List.mem_of_getElem? (i:=3) rfl)
  obtain ⟨x3,c3,b3,w3⟩:=aP k3
  refine ⟨⟨x0,x1,x2,x3⟩,?_,?_,⟨w0,w1,w2,w3⟩⟩
  ·
   simp only [List.map_cons,List.map_nil,List.flatten_cons,List.flatten_nil,c0,c1,c2,c3]
   first | rfl | simp [aQ.cells]
  ·
   simp only [List.map_cons,List.map_nil,List.sum_cons,List.sum_nil] at *
   first | (simp only [aQ.bulk]; omega) | (rw [aQ.bH]; simp only; omega)
theorem xU {c:List PV} {N:Nat} (h:aS Tryz.prog 75 c N):∃ x:List aQ,c=[.list (List.map aQ.cells x)]∧((List.map (fun z:aQ=>(aQ.bulk z)) x).sum + 1)≤N∧(∀ z∈x,(aQ.wf z)):=by
 obtain ⟨l,rfl,rfl,hl⟩:=h.dM Tryz.underlying75
 obtain ⟨xs,h1,h2,h3⟩:=bV (f:=aQ.cells) (μ:=fun z:aQ=>(aQ.bulk z)) (p:=fun z:aQ=>(aQ.wf z)) fun x hx=>uD (hl x hx)
 exact ⟨xs,by rw [h1],by omega,h3⟩
theorem xS {c:List PV} {N:Nat} (h:aS Tryz.prog 77 c N):∃ x:bD,c=bD.cells x∧(bD.bulk x)≤N∧(bD.wf x):=by
 obtain ⟨ps,rfl,rfl,hlen,hz⟩:=h.bE Tryz.underlying77
 match ps,hlen with
 | [p0,p1,p2,p3],_=>
  have k0:aS Tryz.prog 3 p0.1 p0.2:=hz _ (List.mem_of_getElem? (i:=0) rfl)
  obtain ⟨x0,c0,b0,w0⟩:=aP k0
  have k1:aS Tryz.prog 23 p1.1 p1.2:=hz _ (List.mem_of_getElem? (i:=1) rfl)
  obtain ⟨x1,c1,b1,w1⟩:=qJ k1
  have k2:aS Tryz.prog 3 p2.1 p2.2:=hz _ (List.mem_of_getElem? (i:=2) rfl)
  obtain ⟨x2,c2,b2,w2⟩:=aP k2
  have k3:aS Tryz.prog 3 p3.1 p3.2:=hz _ (List.mem_of_getElem? (i:=3) rfl)
  obtain ⟨x3,c3,b3,w3⟩:=aP k3
  refine ⟨⟨x0,x1,x2,x3⟩,?_,?_,⟨w0,w1,w2,w3⟩⟩
  ·
   simp only [List.map_cons,List.map_nil,List.flatten_cons,List.flatten_nil,c0,c1,c2,c3]
   first | rfl | simp [bD.cells]
  ·
   simp only [List.map_cons,List.map_nil,List.sum_cons,List.sum_nil] at *
   first | (simp only [bD.bulk]; omega) | (rw [bD.bH]; simp only; omega)
theorem uG {c:List PV} {N:Nat} (h:aS Tryz.prog 129 c N):∃ x:aB,c=aB.cells x∧(aB.bulk x)≤N∧(aB.wf x):=by
 obtain ⟨ps,rfl,rfl,hlen,hz⟩:=h.bE Tryz.underlying129
 match ps,hlen with
 | [p0,p1,p2],_=>
  have k0:aS Tryz.prog 9 p0.1 p0.2:=hz _ (List.mem_of_getElem? (i:=0) rfl)
  obtain ⟨x0,c0,b0,w0⟩:=bJ k0
  have k1:aS Tryz.prog 22 p1.1 p1.2:=hz _ (List.mem_of_getElem? (i:=1) rfl)
  obtain ⟨x1,c1,b1,w1⟩:=bP k1
  have k2:aS Tryz.prog 22 p2.1 p2.2:=hz _ (List.mem_of_getElem? (i:=2) rfl)
  obtain ⟨x2,c2,b2,w2⟩:=bP k2
  refine ⟨⟨x0,x1,x2⟩,?_,?_,⟨w0,w1,w2⟩⟩
  ·
   simp only [List.map_cons,List.map_nil,List.flatten_cons,List.flatten_nil,c0,c1,c2]
   first | rfl | simp [aB.cells]
  ·
   simp only [List.map_cons,List.map_nil,List.sum_cons,List.sum_nil] at *
   first | (simp only [aB.bulk]; omega) | (rw [aB.bH]; simp only; omega)
theorem xR {c:List PV} {N:Nat} (h:aS Tryz.prog 78 c N):∃ x:List aB,c=[.list (List.map aB.cells x)]∧((List.map (fun z:aB=>(aB.bulk z)) x).sum + 1)≤N∧(∀ z∈x,(aB.wf z)):=by
 obtain ⟨l,rfl,rfl,hl⟩:=h.dM Tryz.underlying78
 obtain ⟨xs,h1,h2,h3⟩:=bV (f:=aB.cells) (μ:=fun z:aB=>(aB.bulk z)) (p:=fun z:aB=>(aB.wf z)) fun x hx=>uG (hl x hx)
 exact ⟨xs,by rw [h1],by omega,h3⟩
theorem xQ {c:List PV} {N:Nat} (h:aS Tryz.prog 80 c N):∃ x:aR,c=aR.cells x∧(aR.bulk x)≤N∧(aR.wf x):=by
 obtain ⟨ps,rfl,rfl,hlen,hz⟩:=h.bE Tryz.underlying80
 match ps,hlen with
 | [p0,p1,p2],_=>
  have k0:aS Tryz.prog 3 p0.1 p0.2:=hz _ (List.mem_of_getElem? (i:=0) rfl)
  obtain ⟨x0,c0,b0,w0⟩:=aP k0
  have k1:aS Tryz.prog 22 p1.1 p1.2:=hz _ (List.mem_of_getElem? (i:=1) rfl)
  obtain ⟨x1,c1,b1,w1⟩:=bP k1
  have k2:aS Tryz.prog 3 p2.1 p2.2:=hz _ (List.mem_of_getElem? (i:=2) rfl)
  obtain ⟨x2,c2,b2,w2⟩:=aP k2
  refine ⟨⟨x0,x1,x2⟩,?_,?_,⟨w0,w1,w2⟩⟩
  ·
   simp only [List.map_cons,List.map_nil,List.flatten_cons,List.flatten_nil,c0,c1,c2]
   first | rfl | simp [aR.cells]
  ·
   simp only [List.map_cons,List.map_nil,List.sum_cons,List.sum_nil] at *
   first | (simp only [aR.bulk]; omega) | (rw [aR.bH]; simp only; omega)
theorem xP {c:List PV} {N:Nat} (h:aS Tryz.prog 82 c N):∃ x:bN,c=bN.cells x∧(bN.bulk x)≤N∧(bN.wf x):=by
 obtain ⟨ps,rfl,rfl,hlen,hz⟩:=h.bE Tryz.underlying82
 match ps,hlen with
 | [p0,p1,p2,p3,p4,p5,p6,p7,p8,p9,JC,JB,JA,Jz,Jy,Jw,p16,Jv,Ju,Jt,Js,Jr,Jq,Jp,Jo],_=>
  have k0:aS Tryz.prog 9 p0.1 p0.2:=hz _ (List.mem_of_getElem? (i:=0) rfl)
  obtain ⟨x0,c0,b0,w0⟩:=bJ k0
  have k1:aS Tryz.prog 22 p1.1 p1.2:=hz _ (List.mem_of_getElem? (i:=1) rfl)
  obtain ⟨x1,c1,b1,w1⟩:=bP k1
  have k2:aS Tryz.prog 74 p2.1 p2.2:=hz _ (List.mem_of_getElem? (i:=2) rfl)
  obtain ⟨x2,c2,b2,w2⟩:=xV k2
  have k3:aS Tryz.prog 49 p3.1 p3.2:=hz _ (List.mem_of_getElem? (i:=3) rfl)
  obtain ⟨x3,c3,b3,w3⟩:=yh k3
  have k4:aS Tryz.prog 75 p4.1 p4.2:=hz _ (List.mem_of_getElem? (i:=4) rfl)
  obtain ⟨x4,c4,b4,w4⟩:=xU k4
  have k5:aS Tryz.prog 22 p5.1 p5.2:=hz _ (List.mem_of_getElem? (i:=5) rfl)
  obtain ⟨x5,c5,b5,w5⟩:=bP k5
  have k6:aS Tryz.prog 9 p6.1 p6.2:=hz _ (List.mem_of_getElem? (i:=6) rfl)
  obtain ⟨x6,c6,b6,w6⟩:=bJ k6
  have k7:aS Tryz.prog 3 p7.1 p7.2:=hz _ (List.mem_of_getElem? (i:=7) rfl)
  obtain ⟨x7,c7,b7,w7⟩:=aP k7
  have k8:aS Tryz.prog 3 p8.1 p8.2:=hz _ (List.mem_of_getElem? (i:=8) rfl)
  obtain ⟨x8,c8,b8,w8⟩:=aP k8
  have k9:aS Tryz.prog 3 p9.1 p9.2:=hz _ (List.mem_of_getElem? (i:=9) rfl)
  obtain ⟨x9,c9,b9,w9⟩:=aP k9
  have k10:aS Tryz.prog 3 JC.1 JC.2:=hz _ (List.mem_of_getElem? (i:=10) rfl)
  obtain ⟨Kz,c10,b10,KP⟩:=aP k10
  have k11:aS Tryz.prog 77 JB.1 JB.2:=hz _ (List.mem_of_getElem? (i:=11) rfl)
  obtain ⟨Ky,c11,b11,KO⟩:=xS k11
  have k12:aS Tryz.prog 22 JA.1 JA.2:=hz _ (List.mem_of_getElem? (i:=12) rfl)
  obtain ⟨Kw,c12,b12,KN⟩:=bP k12
  have k13:aS Tryz.prog 22 Jz.1 Jz.2:=hz _ (List.mem_of_getElem? (i:=13) rfl)
  obtain ⟨Kv,c13,b13,KM⟩:=bP k13
  have k14:aS Tryz.prog 22 Jy.1 Jy.2:=hz _ (List.mem_of_getElem? (i:=14) rfl)
  obtain ⟨Ku,c14,b14,KL⟩:=bP k14
  have k15:aS Tryz.prog 78 Jw.1 Jw.2:=hz _ (List.mem_of_getElem? (i:=15) rfl)
  obtain ⟨Kt,c15,b15,KJ⟩:=xR k15
  have k16:aS Tryz.prog 22 p16.1 p16.2:=hz _ (List.mem_of_getElem? (i:=16) rfl)
  obtain ⟨Kr,c16,b16,w16⟩:=bP k16
  have k17:aS Tryz.prog 9 Jv.1 Jv.2:=hz _ (List.mem_of_getElem? (i:=17) rfl)
  obtain ⟨Kq,c17,b17,KI⟩:=bJ k17
  have k18:aS Tryz.prog 4 Ju.1 Ju.2:=hz _ (List.mem_of_getElem? (i:=18) rfl)
  obtain ⟨Ko,c18,b18,KH⟩:=iA k18
  have k19:aS Tryz.prog 80 Jt.1 Jt.2:=hz _ (List.mem_of_getElem? (i:=19) rfl)
  obtain ⟨Kn,c19,b19,KG⟩:=xQ k19
  have k20:aS Tryz.prog 22 Js.1 Js.2:=hz _ (List.mem_of_getElem? (i:=20) rfl)
  obtain ⟨Km,c20,b20,KF⟩:=bP k20
  have k21:aS Tryz.prog 3 Jr.1 Jr.2:=hz _ (List.mem_of_getElem? (i:=21) rfl)
  obtain ⟨x21,c21,MO,KE⟩:=aP k21
  have k22:aS Tryz.prog 3 Jq.1 Jq.2:=hz _ (List.mem_of_getElem? (i:=22) rfl)
  obtain ⟨Kl,LK,MN,KD⟩:=aP k22
  have k23:aS Tryz.prog 4 Jp.1 Jp.2:=hz _ (List.mem_of_getElem? (i:=23) rfl)
  obtain ⟨x23,c23,ML,KC⟩:=iA k23
  have k24:aS Tryz.prog 4 Jo.1 Jo.2:=hz _ (List.mem_of_getElem? (i:=24) rfl)
  obtain ⟨x24,c24,MK,KA⟩:=iA k24
  refine ⟨⟨x0,x1,x2,x3,x4,x5,x6,x7,x8,x9,Kz,Ky,Kw,Kv,Ku,Kt,Kr,Kq,Ko,Kn,Km,x21,Kl,x23,x24⟩,?_,?_,⟨w0,w1,w2,w3,w4,w5,w6,w7,w8,w9,KP,KO,KN,KM,KL,KJ,w16,KI,KH,KG,KF,KE,KD,KC,KA⟩⟩
  ·
   simp only [List.map_cons,List.map_nil,List.flatten_cons,List.flatten_nil,c0,c1,c2,c3,c4,c5,c6,c7,c8,c9,c10,c11,c12,c13,c14,c15,c16,c17,c18,c19,c20,c21,LK,c23,c24]
   first | rfl | simp [bN.cells,aL.ay,bD.ay,aR.ay]
  ·
   simp only [List.map_cons,List.map_nil,List.sum_cons,List.sum_nil] at *
   first | (simp only [bN.bulk]; omega) | (rw [bN.bH]; simp only; omega)
theorem yj {c:List PV} {N:Nat} (h:aS Tryz.prog 48 c N):∃ x:aG,c=aG.cells x∧(aG.bulk x)≤N∧(aG.wf x):=by
 obtain ⟨ps,rfl,rfl,hlen,hz⟩:=h.bE Tryz.underlying48
 match ps,hlen with
 | [p0,p1,p2],_=>
  have k0:aS Tryz.prog 9 p0.1 p0.2:=hz _ (List.mem_of_getElem? (i:=0) rfl)
  obtain ⟨x0,c0,b0,w0⟩:=bJ k0
  have k1:aS Tryz.prog 9 p1.1 p1.2:=hz _ (List.mem_of_getElem? (i:=1) rfl)
  obtain ⟨x1,c1,b1,w1⟩:=bJ k1
  have k2:aS Tryz.prog 4 p2.1 p2.2:=hz _ (List.mem_of_getElem? (i:=2) rfl)
  obtain ⟨x2,c2,b2,w2⟩:=iA k2
  refine ⟨⟨x0,x1,x2⟩,?_,?_,⟨w0,w1,w2⟩⟩
  ·
   simp only [List.map_cons,List.map_nil,List.flatten_cons,List.flatten_nil,c0,c1,c2]
   first | rfl | simp [aG.cells]
  ·
   simp only [List.map_cons,List.map_nil,List.sum_cons,List.sum_nil] at *
   first | (simp only [aG.bulk]; omega) | (rw [aG.bH]; simp only; omega)
theorem yg {c:List PV} {N:Nat} (h:aS Tryz.prog 51 c N):∃ x:ak,c=ak.cells x∧(ak.bulk x)≤N∧(ak.wf x):=by
 obtain ⟨ps,rfl,rfl,hlen,hz⟩:=h.bE Tryz.underlying51
 match ps,hlen with
 | [p0,p1,p2,p3,p4],_=>
  have k0:aS Tryz.prog 9 p0.1 p0.2:=hz _ (List.mem_of_getElem? (i:=0) rfl)
  obtain ⟨x0,c0,b0,w0⟩:=bJ k0
  have k1:aS Tryz.prog 9 p1.1 p1.2:=hz _ (List.mem_of_getElem? (i:=1) rfl)
  obtain ⟨x1,c1,b1,w1⟩:=bJ k1
  have k2:aS Tryz.prog 3 p2.1 p2.2:=hz _ (List.mem_of_getElem? (i:=2) rfl)
  obtain ⟨x2,c2,b2,w2⟩:=aP k2
  have k3:aS Tryz.prog 22 p3.1 p3.2:=hz _ (List.mem_of_getElem? (i:=3) rfl)
  obtain ⟨x3,c3,b3,w3⟩:=bP k3
  have k4:aS Tryz.prog 22 p4.1 p4.2:=hz _ (List.mem_of_getElem? (i:=4) rfl)
  obtain ⟨x4,c4,b4,w4⟩:=bP k4
  refine ⟨⟨x0,x1,x2,x3,x4⟩,?_,?_,⟨w0,w1,w2,w3,w4⟩⟩
  ·
   simp only [List.map_cons,List.map_nil,List.flatten_cons,List.flatten_nil,c0,c1,c2,c3,c4]
   first | rfl | simp [ak.cells]
  ·
   simp only [List.map_cons,List.map_nil,List.sum_cons,List.sum_nil] at *
   first | (simp only [ak.bulk]; omega) | (rw [ak.bH]; simp only; omega)
theorem xO {c:List PV} {N:Nat} (h:aS Tryz.prog 83 c N):∃ x:List ak,c=[.list (List.map ak.cells x)]∧((List.map (fun z:ak=>(ak.bulk z)) x).sum + 1)≤N∧(∀ z∈x,(ak.wf z)):=by
 obtain ⟨l,rfl,rfl,hl⟩:=h.dM Tryz.underlying83
 obtain ⟨xs,h1,h2,h3⟩:=bV (f:=ak.cells) (μ:=fun z:ak=>(ak.bulk z)) (p:=fun z:ak=>(ak.wf z)) fun x hx=>yg (hl x hx)
 exact ⟨xs,by rw [h1],by omega,h3⟩
theorem qI {c:List PV} {N:Nat} (h:aS Tryz.prog 55 c N):∃ x:BitVec 64,c=[.int .u64 (x.toNat:Int)]∧1≤N∧True:=by
 obtain ⟨n,rfl,hw,rfl⟩:=h.Bw Tryz.underlying55
 obtain ⟨c,rfl⟩:=wf_u64 hw
 exact ⟨c,rfl,Nat.le_refl _,trivial⟩
theorem uF {c:List PV} {N:Nat} (h:aS Tryz.prog 161 c N):∃ x:aj,c=aj.cells x∧(aj.bulk x)≤N∧(aj.wf x):=by
 obtain ⟨ps,rfl,rfl,hlen,hz⟩:=h.bE Tryz.underlying161
 match ps,hlen with
 | [p0,p1,p2],_=>
  have k0:aS Tryz.prog 9 p0.1 p0.2:=hz _ (List.mem_of_getElem? (i:=0) rfl)
  obtain ⟨x0,c0,b0,w0⟩:=bJ k0
  have k1:aS Tryz.prog 55 p1.1 p1.2:=hz _ (List.mem_of_getElem? (i:=1) rfl)
  obtain ⟨x1,c1,b1,w1⟩:=qI k1
  have k2:aS Tryz.prog 3 p2.1 p2.2:=hz _ (List.mem_of_getElem? (i:=2) rfl)
  obtain ⟨x2,c2,b2,w2⟩:=aP k2
  refine ⟨⟨x0,x1,x2⟩,?_,?_,⟨w0,w1,w2⟩⟩
  ·
   simp only [List.map_cons,List.map_nil,List.flatten_cons,List.flatten_nil,c0,c1,c2]
   first | rfl | simp [aj.cells]
  ·
   simp only [List.map_cons,List.map_nil,List.sum_cons,List.sum_nil] at *
   first | (simp only [aj.bulk]; omega) | (rw [aj.bH]; simp only; omega)
theorem mW {c:List PV} {N:Nat} (h:aS Tryz.prog 58 c N):∃ x:List aj,c=[.list (List.map aj.cells x)]∧((List.map (fun z:aj=>(aj.bulk z)) x).sum + 1)≤N∧(∀ z∈x,(aj.wf z)):=by
 obtain ⟨l,rfl,rfl,hl⟩:=h.dM Tryz.underlying58
 obtain ⟨xs,h1,h2,h3⟩:=bV (f:=aj.cells) (μ:=fun z:aj=>(aj.bulk z)) (p:=fun z:aj=>(aj.wf z)) fun x hx=>uF (hl x hx)
 exact ⟨xs,by rw [h1],by omega,h3⟩
theorem yc {c:List PV} {N:Nat} (h:aS Tryz.prog 53 c N):∃ x:aT,c=aT.cells x∧(aT.bulk x)≤N∧(aT.wf x):=by
 obtain ⟨ps,rfl,rfl,hlen,hz⟩:=h.bE Tryz.underlying53
 match ps,hlen with
 | [p0,p1,p2],_=>
  have k0:aS Tryz.prog 9 p0.1 p0.2:=hz _ (List.mem_of_getElem? (i:=0) rfl)
  obtain ⟨x0,c0,b0,w0⟩:=bJ k0
  have k1:aS Tryz.prog 3 p1.1 p1.2:=hz _ (List.mem_of_getElem? (i:=1) rfl)
  obtain ⟨x1,c1,b1,w1⟩:=aP k1
  have k2:aS Tryz.prog 9 p2.1 p2.2:=hz _ (List.mem_of_getElem? (i:=2) rfl)
  obtain ⟨x2,c2,b2,w2⟩:=bJ k2
  refine ⟨⟨x0,x1,x2⟩,?_,?_,⟨w0,w1,w2⟩⟩
  ·
   simp only [List.map_cons,List.map_nil,List.flatten_cons,List.flatten_nil,c0,c1,c2]
   first | rfl | simp [aT.cells]
  ·
   simp only [List.map_cons,List.map_nil,List.sum_cons,List.sum_nil] at *
   first | (simp only [aT.bulk]; omega) | (rw [aT.bH]; simp only; omega)
theorem xZ {c:List PV} {N:Nat} (h:aS Tryz.prog 57 c N):∃ x:av,c=av.cells x∧(av.bulk x)≤N∧(av.wf x):=by
 obtain ⟨ps,rfl,rfl,hlen,hz⟩:=h.bE Tryz.underlying57
 match ps,hlen with
 | [p0,p1,p2,p3,p4,p5],_=>
  have k0:aS Tryz.prog 53 p0.1 p0.2:=hz _ (List.mem_of_getElem? (i:=0) rfl)
  obtain ⟨x0,c0,b0,w0⟩:=yc k0
  have k1:aS Tryz.prog 9 p1.1 p1.2:=hz _ (List.mem_of_getElem? (i:=1) rfl)
  obtain ⟨x1,c1,b1,w1⟩:=bJ k1
  have k2:aS Tryz.prog 55 p2.1 p2.2:=hz _ (List.mem_of_getElem? (i:=2) rfl)
  obtain ⟨x2,c2,b2,w2⟩:=qI k2
  have k3:aS Tryz.prog 3 p3.1 p3.2:=hz _ (List.mem_of_getElem? (i:=3) rfl)
  obtain ⟨x3,c3,b3,w3⟩:=aP k3
  have k4:aS Tryz.prog 3 p4.1 p4.2:=hz _ (List.mem_of_getElem? (i:=4) rfl)
  obtain ⟨x4,c4,b4,w4⟩:=aP k4
  have k5:aS Tryz.prog 3 p5.1 p5.2:=hz _ (List.mem_of_getElem? (i:=5) rfl)
  obtain ⟨x5,c5,b5,w5⟩:=aP k5
  refine ⟨⟨x0,x1,x2,x3,x4,x5⟩,?_,?_,⟨w0,w1,w2,w3,w4,w5⟩⟩
  ·
   simp only [List.map_cons,List.map_nil,List.flatten_cons,List.flatten_nil,c0,c1,c2,c3,c4,c5]
   first | rfl | simp [av.cells,aT.ay]
  ·
   simp only [List.map_cons,List.map_nil,List.sum_cons,List.sum_nil] at *
   first | (simp only [av.bulk]; omega) | (rw [av.bH]; simp only; omega)
theorem qG {c:List PV} {N:Nat} (h:aS Tryz.prog 84 c N):∃ x:List av,c=[.list (List.map av.cells x)]∧((List.map (fun z:av=>(av.bulk z)) x).sum + 1)≤N∧(∀ z∈x,(av.wf z)):=by
 obtain ⟨l,rfl,rfl,hl⟩:=h.dM Tryz.underlying84
 obtain ⟨xs,h1,h2,h3⟩:=bV (f:=av.cells) (μ:=fun z:av=>(av.bulk z)) (p:=fun z:av=>(av.wf z)) fun x hx=>xZ (hl x hx)
 exact ⟨xs,by rw [h1],by omega,h3⟩
theorem uE {c:List PV} {N:Nat} (h:aS Tryz.prog 164 c N):∃ x:aA,c=aA.cells x∧(aA.bulk x)≤N∧(aA.wf x):=by
 obtain ⟨ps,rfl,rfl,hlen,hz⟩:=h.bE Tryz.underlying164
 match ps,hlen with
 | [p0,p1],_=>
  have k0:aS Tryz.prog 9 p0.1 p0.2:=hz _ (List.mem_of_getElem? (i:=0) rfl)
  obtain ⟨x0,c0,b0,w0⟩:=bJ k0
  have k1:aS Tryz.prog 3 p1.1 p1.2:=hz _ (List.mem_of_getElem? (i:=1) rfl)
  obtain ⟨x1,c1,b1,w1⟩:=aP k1
  refine ⟨⟨x0,x1⟩,?_,?_,⟨w0,w1⟩⟩
  ·
   simp only [List.map_cons,List.map_nil,List.flatten_cons,List.flatten_nil,c0,c1]
   first | rfl | simp [aA.cells]
  ·
   simp only [List.map_cons,List.map_nil,List.sum_cons,List.sum_nil] at *
   first | (simp only [aA.bulk]; omega) | (rw [aA.bH]; simp only; omega)
theorem xM {c:List PV} {N:Nat} (h:aS Tryz.prog 85 c N):∃ x:List aA,c=[.list (List.map aA.cells x)]∧((List.map (fun z:aA=>(aA.bulk z)) x).sum + 1)≤N∧(∀ z∈x,(aA.wf z)):=by
 obtain ⟨l,rfl,rfl,hl⟩:=h.dM Tryz.underlying85
 obtain ⟨xs,h1,h2,h3⟩:=bV (f:=aA.cells) (μ:=fun z:aA=>(aA.bulk z)) (p:=fun z:aA=>(aA.wf z)) fun x hx=>uE (hl x hx)
 exact ⟨xs,by rw [h1],by omega,h3⟩
theorem xL {c:List PV} {N:Nat} (h:aS Tryz.prog 87 c N):∃ x:aC,c=aC.cells x∧(aC.bulk x)≤N∧(aC.wf x):=by
 obtain ⟨ps,rfl,rfl,hlen,hz⟩:=h.bE Tryz.underlying87
 match ps,hlen with
 | [p0,p1,p2,p3,p4,p5,p6,p7,p8],_=>
  have k0:aS Tryz.prog 68 p0.1 p0.2:=hz _ (List.mem_of_getElem? (i:=0) rfl)
  obtain ⟨x0,c0,b0,w0⟩:=xW k0
  have k1:aS Tryz.prog 82 p1.1 p1.2:=hz _ (List.mem_of_getElem? (i:=1) rfl)
  obtain ⟨x1,c1,b1,w1⟩:=xP k1
  have k2:aS Tryz.prog 48 p2.1 p2.2:=hz _ (List.mem_of_getElem? (i:=2) rfl)
  obtain ⟨x2,c2,b2,w2⟩:=yj k2
  have k3:aS Tryz.prog 83 p3.1 p3.2:=hz _ (List.mem_of_getElem? (i:=3) rfl)
  obtain ⟨x3,c3,b3,w3⟩:=xO k3
  have k4:aS Tryz.prog 58 p4.1 p4.2:=hz _ (List.mem_of_getElem? (i:=4) rfl)
  obtain ⟨x4,c4,b4,w4⟩:=mW k4
  have k5:aS Tryz.prog 84 p5.1 p5.2:=hz _ (List.mem_of_getElem? (i:=5) rfl)
  obtain ⟨x5,c5,b5,w5⟩:=qG k5
  have k6:aS Tryz.prog 22 p6.1 p6.2:=hz _ (List.mem_of_getElem? (i:=6) rfl)
  obtain ⟨x6,c6,b6,w6⟩:=bP k6
  have k7:aS Tryz.prog 85 p7.1 p7.2:=hz _ (List.mem_of_getElem? (i:=7) rfl)
  obtain ⟨x7,c7,b7,w7⟩:=xM k7
  have k8:aS Tryz.prog 22 p8.1 p8.2:=hz _ (List.mem_of_getElem? (i:=8) rfl)
  obtain ⟨x8,c8,b8,w8⟩:=bP k8
  refine ⟨⟨x0,x1,x2,x3,x4,x5,x6,x7,x8⟩,?_,?_,⟨w0,w1,w2,w3,w4,w5,w6,w7,w8⟩⟩
  ·
   simp only [List.map_cons,List.map_nil,List.flatten_cons,List.flatten_nil,c0,c1,c2,c3,c4,c5,c6,c7,c8]
   first | rfl | simp [aC.cells,bn.ay,bN.ay,aG.ay]
  ·
   simp only [List.map_cons,List.map_nil,List.sum_cons,List.sum_nil] at *
   first | (simp only [aC.bulk]; omega) | (rw [aC.bH]; simp only; omega)
theorem uz {c:List PV} {N:Nat} (h:aS Tryz.prog 203 c N):∃ x:ah,c=ah.cells x∧(ah.bulk x)≤N∧(ah.wf x):=by
 obtain ⟨ps,rfl,rfl,hlen,hz⟩:=h.bE Tryz.underlying203
 match ps,hlen with
 | [p0,p1,p2],_=>
  have k0:aS Tryz.prog 9 p0.1 p0.2:=hz _ (List.mem_of_getElem? (i:=0) rfl)
  obtain ⟨x0,c0,b0,w0⟩:=bJ k0
  have k1:aS Tryz.prog 3 p1.1 p1.2:=hz _ (List.mem_of_getElem? (i:=1) rfl)
  obtain ⟨x1,c1,b1,w1⟩:=aP k1
  have k2:aS Tryz.prog 3 p2.1 p2.2:=hz _ (List.mem_of_getElem? (i:=2) rfl)
  obtain ⟨x2,c2,b2,w2⟩:=aP k2
  refine ⟨⟨x0,x1,x2⟩,?_,?_,⟨w0,w1,w2⟩⟩
  ·
   simp only [List.map_cons,List.map_nil,List.flatten_cons,List.flatten_nil,c0,c1,c2]
   first | rfl | simp [ah.cells]
  ·
   simp only [List.map_cons,List.map_nil,List.sum_cons,List.sum_nil] at *
   first | (simp only [ah.bulk]; omega) | (rw [ah.bH]; simp only; omega)
theorem xY {c:List PV} {N:Nat} (h:aS Tryz.prog 59 c N):∃ x:List ah,c=[.list (List.map ah.cells x)]∧((List.map (fun z:ah=>(ah.bulk z)) x).sum + 1)≤N∧(∀ z∈x,(ah.wf z)):=by
 obtain ⟨l,rfl,rfl,hl⟩:=h.dM Tryz.underlying59
 obtain ⟨xs,h1,h2,h3⟩:=bV (f:=ah.cells) (μ:=fun z:ah=>(ah.bulk z)) (p:=fun z:ah=>(ah.wf z)) fun x hx=>uz (hl x hx)
 exact ⟨xs,by rw [h1],by omega,h3⟩
theorem xX {c:List PV} {N:Nat} (h:aS Tryz.prog 61 c N):∃ x:aJ,c=aJ.cells x∧(aJ.bulk x)≤N∧(aJ.wf x):=by
 obtain ⟨ps,rfl,rfl,hlen,hz⟩:=h.bE Tryz.underlying61
 match ps,hlen with
 | [p0,p1,p2,p3,p4,p5],_=>
  have k0:aS Tryz.prog 3 p0.1 p0.2:=hz _ (List.mem_of_getElem? (i:=0) rfl)
  obtain ⟨x0,c0,b0,w0⟩:=aP k0
  have k1:aS Tryz.prog 3 p1.1 p1.2:=hz _ (List.mem_of_getElem? (i:=1) rfl)
  obtain ⟨x1,c1,b1,w1⟩:=aP k1
  have k2:aS Tryz.prog 58 p2.1 p2.2:=hz _ (List.mem_of_getElem? (i:=2) rfl)
  obtain ⟨x2,c2,b2,w2⟩:=mW k2
  have k3:aS Tryz.prog 58 p3.1 p3.2:=hz _ (List.mem_of_getElem? (i:=3) rfl)
  obtain ⟨x3,c3,b3,w3⟩:=mW k3
  have k4:aS Tryz.prog 59 p4.1 p4.2:=hz _ (List.mem_of_getElem? (i:=4) rfl)
  obtain ⟨x4,c4,b4,w4⟩:=xY k4
  have k5:aS Tryz.prog 9 p5.1 p5.2:=hz _ (List.mem_of_getElem? (i:=5) rfl)
  obtain ⟨x5,c5,b5,w5⟩:=bJ k5
  refine ⟨⟨x0,x1,x2,x3,x4,x5⟩,?_,?_,⟨w0,w1,w2,w3,w4,w5⟩⟩
  ·
   simp only [List.map_cons,List.map_nil,List.flatten_cons,List.flatten_nil,c0,c1,c2,c3,c4,c5]
   first | rfl | simp [aJ.cells]
  ·
   simp only [List.map_cons,List.map_nil,List.sum_cons,List.sum_nil] at *
   first | (simp only [aJ.bulk]; omega) | (rw [aJ.bH]; simp only; omega)
theorem uI {c:List PV} {N:Nat} (h:aS Tryz.prog 101 c N):∃ x:aU,c=aU.cells x∧(aU.bulk x)≤N∧(aU.wf x):=by
 obtain ⟨ps,rfl,rfl,hlen,hz⟩:=h.bE Tryz.underlying101
 match ps,hlen with
 | [p0,p1,p2,p3],_=>
  have k0:aS Tryz.prog 61 p0.1 p0.2:=hz _ (List.mem_of_getElem? (i:=0) rfl)
  obtain ⟨x0,c0,b0,w0⟩:=xX k0
  have k1:aS Tryz.prog 9 p1.1 p1.2:=hz _ (List.mem_of_getElem? (i:=1) rfl)
  obtain ⟨x1,c1,b1,w1⟩:=bJ k1
  have k2:aS Tryz.prog 3 p2.1 p2.2:=hz _ (List.mem_of_getElem? (i:=2) rfl)
  obtain ⟨x2,c2,b2,w2⟩:=aP k2
  have k3:aS Tryz.prog 84 p3.1 p3.2:=hz _ (List.mem_of_getElem? (i:=3) rfl)
  obtain ⟨x3,c3,b3,w3⟩:=qG k3
  refine ⟨⟨x0,x1,x2,x3⟩,?_,?_,⟨w0,w1,w2,w3⟩⟩
  ·
   simp only [List.map_cons,List.map_nil,List.flatten_cons,List.flatten_nil,c0,c1,c2,c3]
   first | rfl | simp [aU.cells,aJ.ay]
  ·
   simp only [List.map_cons,List.map_nil,List.sum_cons,List.sum_nil] at *
   first | (simp only [aU.bulk]; omega) | (rw [aU.bH]; simp only; omega)
theorem uH {c:List PV} {N:Nat} (h:aS Tryz.prog 103 c N):∃ x:aF,c=aF.cells x∧(aF.bulk x)≤N∧(aF.wf x):=by
 obtain ⟨ps,rfl,rfl,hlen,hz⟩:=h.bE Tryz.underlying103
 match ps,hlen with
 | [p0,p1,p2,p3,p4,p5],_=>
  have k0:aS Tryz.prog 87 p0.1 p0.2:=hz _ (List.mem_of_getElem? (i:=0) rfl)
  obtain ⟨x0,c0,b0,w0⟩:=xL k0
  have k1:aS Tryz.prog 3 p1.1 p1.2:=hz _ (List.mem_of_getElem? (i:=1) rfl)
  obtain ⟨x1,c1,b1,w1⟩:=aP k1
  have k2:aS Tryz.prog 3 p2.1 p2.2:=hz _ (List.mem_of_getElem? (i:=2) rfl)
  obtain ⟨x2,c2,b2,w2⟩:=aP k2
  have k3:aS Tryz.prog 101 p3.1 p3.2:=hz _ (List.mem_of_getElem? (i:=3) rfl)
  obtain ⟨x3,c3,b3,w3⟩:=uI k3
  have k4:aS Tryz.prog 3 p4.1 p4.2:=hz _ (List.mem_of_getElem? (i:=4) rfl)
  obtain ⟨x4,c4,b4,w4⟩:=aP k4
  have k5:aS Tryz.prog 3 p5.1 p5.2:=hz _ (List.mem_of_getElem? (i:=5) rfl)
  obtain ⟨x5,c5,b5,w5⟩:=aP k5
  refine ⟨⟨x0,x1,x2,x3,x4,x5⟩,?_,?_,⟨w0,w1,w2,w3,w4,w5⟩⟩
  ·
   simp only [List.map_cons,List.map_nil,List.flatten_cons,List.flatten_nil,c0,c1,c2,c3,c4,c5]
   first | rfl | simp [aF.cells,aC.ay,aU.ay]
  ·
   simp only [List.map_cons,List.map_nil,List.sum_cons,List.sum_nil] at *
   first | (simp only [aF.bulk]; omega) | (rw [aF.bH]; simp only; omega)
theorem yx {c:List PV} {N:Nat} (h:aS Tryz.prog 27 c N):∃ x:List aF,c=[.list (List.map aF.cells x)]∧((List.map (fun z:aF=>(aF.bulk z)) x).sum + 1)≤N∧(∀ z∈x,(aF.wf z)):=by
 obtain ⟨l,rfl,rfl,hl⟩:=h.dM Tryz.underlying27
 obtain ⟨xs,h1,h2,h3⟩:=bV (f:=aF.cells) (μ:=fun z:aF=>(aF.bulk z)) (p:=fun z:aF=>(aF.wf z)) fun x hx=>uH (hl x hx)
 exact ⟨xs,by rw [h1],by omega,h3⟩
theorem yw {c:List PV} {N:Nat} (h:aS Tryz.prog 29 c N):∃ x:aH,c=aH.cells x∧(aH.bulk x)≤N∧(aH.wf x):=by
 obtain ⟨ps,rfl,rfl,hlen,hz⟩:=h.bE Tryz.underlying29
 match ps,hlen with
 | [p0,p1,p2,p3,p4,p5,p6],_=>
  have k0:aS Tryz.prog 25 p0.1 p0.2:=hz _ (List.mem_of_getElem? (i:=0) rfl)
  obtain ⟨x0,c0,b0,w0⟩:=yA k0
  have k1:aS Tryz.prog 4 p1.1 p1.2:=hz _ (List.mem_of_getElem? (i:=1) rfl)
  obtain ⟨x1,c1,b1,w1⟩:=iA k1
  have k2:aS Tryz.prog 4 p2.1 p2.2:=hz _ (List.mem_of_getElem? (i:=2) rfl)
  obtain ⟨x2,c2,b2,w2⟩:=iA k2
  have k3:aS Tryz.prog 3 p3.1 p3.2:=hz _ (List.mem_of_getElem? (i:=3) rfl)
  obtain ⟨x3,c3,b3,w3⟩:=aP k3
  have k4:aS Tryz.prog 3 p4.1 p4.2:=hz _ (List.mem_of_getElem? (i:=4) rfl)
  obtain ⟨x4,c4,b4,w4⟩:=aP k4
  have k5:aS Tryz.prog 3 p5.1 p5.2:=hz _ (List.mem_of_getElem? (i:=5) rfl)
  obtain ⟨x5,c5,b5,w5⟩:=aP k5
  have k6:aS Tryz.prog 27 p6.1 p6.2:=hz _ (List.mem_of_getElem? (i:=6) rfl)
  obtain ⟨x6,c6,b6,w6⟩:=yx k6
  refine ⟨⟨x0,x1,x2,x3,x4,x5,x6⟩,?_,?_,⟨w0,w1,w2,w3,w4,w5,w6⟩⟩
  ·
   simp only [List.map_cons,List.map_nil,List.flatten_cons,List.flatten_nil,c0,c1,c2,c3,c4,c5,c6]
   first | rfl | simp [aH.cells,aI.ay]
  ·
   simp only [List.map_cons,List.map_nil,List.sum_cons,List.sum_nil] at *
   first | (simp only [aH.bulk]; omega) | (rw [aH.bH]; simp only; omega)
end
namespace agentExpires
open Go.ChangeShapes Go.WideShapes Go.ChangeAt Go.RowKit
theorem own :ownKnob Tryz.prog.godebug=none:=by kernel_rfl
theorem laidOut :laidOutB Tryz.prog=true:=by kernel_rfl
mutual
theorem eB {H:Type}:∀ d:DataW H,Rows.uptoBulk d=dw d
 | .lit (.string _)=>by simp only [Rows.uptoBulk,dw]
 | .lit (.bool _)=>by simp only [Rows.uptoBulk,dw]
 | .lit (.int _ _)=>by simp only [Rows.uptoBulk,dw]
 | .lit (.float _ _)=>by simp only [Rows.uptoBulk,dw]
 | .lit .nil=>by simp only [Rows.uptoBulk,dw]
 | .nil=>by simp only [Rows.uptoBulk,dw]
 | .ptr d=>by simp only [Rows.uptoBulk,dw,eB d]
 | .slice a b=>by simp only [Rows.uptoBulk,dw,iG a,iG b]
 | .agg a=>by simp only [Rows.uptoBulk,dw,iG a]
 | .iface _ d=>by simp only [Rows.uptoBulk,dw,eB d]
 | .map a=>by simp only [Rows.uptoBulk,dw,mO a]
 | .held _=>by simp only [Rows.uptoBulk,dw]
theorem iG {H:Type}:∀ l:List (DataW H),Rows.uptoBulkAll l=dI l
 | []=>by simp only [Rows.uptoBulkAll,dI]
 | d :: r=>by simp only [Rows.uptoBulkAll,dI,eB d,iG r]
theorem mO {H:Type}:∀ l:List (Lit × DataW H),Rows.uptoBulkEntries l=fJ l
 | []=>by simp only [Rows.uptoBulkEntries,fJ]
 | x :: r=>by simp only [Rows.uptoBulkEntries,fJ,vQ x,mO r]
theorem vQ {H:Type}:∀ x:Lit × DataW H,Rows.uptoBulkEntry x=dX x
 | (.string _,d)=>by simp only [Rows.uptoBulkEntry,dX,eB d]
 | (.bool _,d)=>by simp only [Rows.uptoBulkEntry,dX,eB d]
 | (.int _ _,d)=>by simp only [Rows.uptoBulkEntry,dX,eB d]
 | (.float _ _,d)=>by simp only [Rows.uptoBulkEntry,dX,eB d]
 | (.nil,d)=>by simp only [Rows.uptoBulkEntry,dX,eB d]
end
instance JN :cZ:=JO [] [] []
instance MF :Mi where
 hD:=id
/-- the walk,over any arguments of the parameters' types -/
theorem walk :∀ qs N,vU Tryz.prog [29,3] qs N→N≤1048576→AC Tryz.prog 5 qs [] fun out _=>out=.ret (.bool true):=by
 intro qs N h hN
 obtain ⟨q0,Ml,A0,B0,rfl,e0,t0,g0⟩:=h
 obtain ⟨cs0,rfl,u0⟩:=t0.H_ ⟨_,Tryz.underlying29⟩
 obtain ⟨x0,rfl,m0,w0⟩:=yw u0
 rw [aH.ay]
 obtain ⟨q1,Mk,A1,B1,rfl,e1,t1,g1⟩:=g0
 have u1:=t1.Bt (by rw [Tryz.underlying3]; simp) (by rw [Tryz.underlying3]; simp)
 obtain ⟨x1,hx1,m1,w1⟩:=aP u1
 simp only [List.cons.injEq,and_true] at hx1
 subst hx1
 obtain ⟨rfl,e2⟩:=g1
 exact qj _ _ (rH x0 x1 (by omega) w0 w1) rfl
theorem Bz {W:World} (hL:laidMet Tryz.prog [("math/bits.deBruijn32tab",Rows.laid_math_bits_deBruijn32tab),("math/bits.deBruijn64tab",Rows.laid_math_bits_deBruijn64tab),("internal/strconv.uint64pow10",Rows.laid_internal_strconv_uint64pow10),("unicode/utf8.acceptRanges",Rows.laid_unicode_utf8_acceptRanges),("strconv.ErrRange",Rows.laid_strconv_ErrRange),("strconv.ErrSyntax",Rows.laid_strconv_ErrSyntax),("unicode/utf8.first",Rows.laid_unicode_utf8_first)] W) (hS:W.ShapedOpen Tryz.prog):cZ.G W (jJ W):=by
 refine ⟨fun g hg=>?_,fun g hg=>?_,fun p hp=>?_⟩
 · cases hg
 · cases hg
 · cases hp
theorem uM (os:Os):laidMet Tryz.prog Rows.agentExpiresUptoRow.laid ((World.laidAll Tryz.prog os Rows.agentExpiresUptoRow.laid).forCall (fun _ _=>0) ⟨#[],#[.agg #[.string ⟨#[]⟩,.slice none 0 0,.int .i64 0,.int .i64 0,.bool false,.int .i64 0,.int .i64 0,.int .i64 0,.slice none 0 0,.bool false,.bool false,.int .i64 0,.int .i64 0,.int .i64 0,.slice none 0 0],.int .i64 0],[]⟩).memory:=
 laidMet_laidAll _ (by kernel_rfl) (by kernel_rfl)
theorem reads (os:Os) {H:Type} (enc:TypeId × Value→H):∃ places,DataW.whole enc Tryz.prog ((World.laidAll Tryz.prog os Rows.agentExpiresUptoRow.laid).forCall (fun _ _=>0) ⟨#[],#[.agg #[.string ⟨#[]⟩,.slice none 0 0,.int .i64 0,.int .i64 0,.bool false,.int .i64 0,.int .i64 0,.int .i64 0,.slice none 0 0,.bool false,.bool false,.int .i64 0,.int .i64 0,.int .i64 0,.slice none 0 0],.int .i64 0],[]⟩).memory Tryz.f5.params.toList Rows.agentExpiresSpec.vars false (#[.agg #[.string ⟨#[]⟩,.slice none 0 0,.int .i64 0,.int .i64 0,.bool false,.int .i64 0,.int .i64 0,.int .i64 0,.slice none 0 0,.bool false,.bool false,.int .i64 0,.int .i64 0,.int .i64 0,.slice none 0 0],.int .i64 0]:Array Value).toList 8=some ([.agg [.agg [.lit (.string []),.nil,.lit (.int .i64 0),.lit (.int .i64 0),.lit (.bool false),.lit (.int .i64 0),.lit (.int .i64 0),.lit (.int .i64 0),.nil],.lit (.bool false),.lit (.bool false),.lit (.int .i64 0),.lit (.int .i64 0),.lit (.int .i64 0),.nil],.lit (.int .i64 0)],[],places):=
 ⟨[],by kernel_rfl⟩
set_option maxRecDepth 100000 in
theorem lifted (os:Os) (started:os.Started) (H:Type) (enc:TypeId × Value→H) (F:Stop.Interp):
  ReturnsInHanded {} Tryz.checked os 5 .any ((Rows.OpenSpec.upto Rows.agentExpiresSpec).preRow enc Tryz.prog Tryz.f5 Rows.agentExpiresUptoRow.domain false Rows.agentExpiresUptoRow.laid) (((Rows.OpenSpec.upto Rows.agentExpiresSpec).at F).post enc Tryz.prog Tryz.f5 false true false false):=by
 obtain ⟨places,hx⟩:=reads os enc
 refine returnsInHanded_of_row (C:=Tryz.checked) (s:=Rows.OpenSpec.upto Rows.agentExpiresSpec) own started (by kernel_rfl) Tryz.func5
  (witness_row_atRef (enc:=enc) (C:=Tryz.checked) false (World.laidAll Tryz.prog os Rows.agentExpiresUptoRow.laid) #[.agg #[.string ⟨#[]⟩,.slice none 0 0,.int .i64 0,.int .i64 0,.bool false,.int .i64 0,.int .i64 0,.int .i64 0,.slice none 0 0,.bool false,.bool false,.int .i64 0,.int .i64 0,.int .i64 0,.slice none 0 0],.int .i64 0] (World.laidAll_os _ _ _) (by kernel_rfl) (by kernel_rfl) (by kernel_rfl)
   (OpenSpec.preRow_of_cond 8 hx (by kernel_rfl) (fun k hk=>by cases hk; kernel_rfl) (by kernel_rfl) (by rw [MakeChecks.laidMetH_plain _ _ _ (by kernel_rfl)]; exact uM os))) ?_
 intro W base args ds gs before hval hW _ hcond _ hlaid hshape _
 rw [MakeChecks.laidMetH_plain _ _ _ (by kernel_rfl)] at hlaid
 have hk:=hcond _ rfl
 have hk2:dI (ds ++ gs)≤1048576:=by
  have:=of_decide_eq_true hk
  rw [iG] at this
  exact this
 have hgs:gs=[]:=by
  obtain ⟨p,q,hA,hV,rfl,hfz,hnd⟩:=hW
  cases gs with
  | nil=>rfl
  | cons g gs=>exact hV.elim
 subst hgs
 rw [List.append_nil] at hk2
 refine wP (P:=Tryz.prog) (S:=[3,4,9,22,23,25,27,29,46,48,49,51,53,55,57,58,59,61,68,69,71,72,74,75,77,78,80,82,83,84,85,87,101,103,129,161,164,196,203,224]) (tb:=4) (by kernel_rfl) (by rw [Tryz.params5]; decide) (by rw [Tryz.params5]; exact of_decide_eq_true (by kernel_rfl)) laidOut (by kernel_rfl) Tryz.underlying4 rfl ?_ (fun qs N h hN=>by rw [Tryz.params5] at h; exact walk qs N h (by omega)) hval hW (Bz hlaid hshape)
 rw [Tryz.params5]
 intro ds hd
 match ds,hd with
 | [d0,d1],_=>rfl
end agentExpires
end Go.Proofs.YtdgljcpjcgldfaaGreatDoor
