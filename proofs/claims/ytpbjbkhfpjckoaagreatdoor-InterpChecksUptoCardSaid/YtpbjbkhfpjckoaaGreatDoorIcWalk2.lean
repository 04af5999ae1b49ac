/- Proved here: each function does what its functional text says (part 2). -/
import Derived.Test.YtpbjbkhfpjckoaaGreatDoorIcWalk1
set_option linter.unusedVariables false
set_option linter.unusedSimpArgs false
set_option linter.unusedSectionVars false
namespace Go.Proofs.YtpbjbkhfpjckoaaGreatDoor
open Go Go.Abs Go.Ft
set_option maxRecDepth 20000
set_option maxHeartbeats 8000000
attribute [local irreducible] AO AR AW AC ay dX j_ yh dZ idx sl app
variable [fJ]
variable {τ : List aQ} {Q : dL → List aQ → Prop}
instance afJ (a1:au) (b1:au):CT Tryz.prog (Ib a1 b1) (fun r=>.ret (.bool r)) 309 [.agg (aN a1),.agg (aN b1)]:=by
  unfold Ib; exact Z1 ⟨13,[],[]⟩ Z Tryz.func309 Z Z Z Z
instance afL (a1:au) (b1:au):CT Tryz.prog (vw a1 b1) (fun r=>.ret (.agg (aN r))) 238 [.agg (aN a1),.agg (aN b1)]:=by
  unfold vw; exact Z1 ⟨13,[],[]⟩ Z Tryz.func238 Z Z Z Z
instance af7 (a1:au) (b1:au):CT Tryz.prog (H8 a1 b1) (fun r=>.ret (.tuple [.agg (aN r.1),.bool r.2])) 308 [.agg (aN a1),.agg (aN b1)]:=by
  unfold H8; exact Z1 ⟨38,[],[]⟩ Z Tryz.func308 Z Z Z Z
instance acN (op1:Str) (a1:au) (b1:au):CT Tryz.prog (Aa op1 a1 b1) (fun r=>.ret (.tuple [.agg (aN r.1),.bool r.2])) 237 [.str op1,.agg (aN a1),.agg (aN b1)]:=by
  unfold Aa; exact Z1 ⟨61,[],[(4,4,7,8,0),(13,12,15,16,0),(16,4,7,8,0)]⟩ Z Tryz.func237 Z Z Z Z
instance (e1 :ah) (l1:List au) (n_ eZ mY):LE (xE e1 l1 n_ eZ mY) (fun j p=>xE e1 l1 j p.1 p.2) n_ (eZ,mY) [] [] [] [1,2,4,7] (fun v w p=>[(8,iP p.1)]) (fun v w p s=>uz 0 (aN p.2) (s)):=⟨Z⟩
instance afv (e1:ah) (l1:List au):CT Tryz.prog (jM e1 l1) (fun r=>.ret (.tuple [.agg (aN r.1),.bool r.2])) 160 [.agg (aP e1),.list (au.bC l1)]:=by
  unfold jM; exact Z1 ⟨108,[],[]⟩ Z Tryz.func160 Z Z Z Z
section
variable (nQ : ah → List aO → Option (au × Int)) [ab8 : ∀ (iF : ah) (gM : List aO), CT Tryz.prog (nQ iF gM) (fun r => .ret (.tuple [.agg (aN r.1), iP r.2])) 90 [.agg (aP iF), .list (List.map aO.cells gM)]]
instance (e1 :ah) (bM:List aO) (n_ eZ mY):LE (qP nQ e1 bM n_ eZ mY) (fun j p=>qP nQ e1 bM j p.1 p.2) n_ (eZ,mY) [6] [] [(6,2,63)] [1,2,4] (fun v w p=>[(6,.own v (List.map au.cells p.1)),(7,iP p.2)]) (fun v w p s=>putRow 0 v ((List.map au.cells p.1).length) (s)):=⟨Z⟩
instance QY (e1:ah) (bM:List aO):CT Tryz.prog (Dh nQ e1 bM) (fun r=>.ret (.tuple [.agg (aN r.1),iP r.2])) 90 [.agg (aP e1),.list (List.map aO.cells bM)]:=by
  unfold Dh; exact Z1 ⟨87,[],[]⟩ Z Tryz.func90 Z Z Z Z
end
theorem Mj :∀ k:Nat,(∀ (iF:ah) (gM:List aO),CT Tryz.prog (oh k iF gM) (fun r=>.ret (.tuple [.agg (aN r.1),iP r.2])) 90 [.agg (aP iF),.list (List.map aO.cells gM)])
  | 0=>fun _ _=>CT.none Z
  | k + 1=>by
    obtain (i0):=Mj k; exact fun iF gM=>QY _ iF gM
instance afx (iF:ah) (gM:List aO):CT Tryz.prog (H9 iF gM) (fun r=>.ret (.tuple [.agg (aN r.1),iP r.2])) 90 [.agg (aP iF),.list (List.map aO.cells gM)]:=(Mj BIG) iF gM
instance afz (e1:ah) (bM:List aO):CT Tryz.prog (qQ e1 bM) (fun r=>.ret (.tuple [.agg (aN r.1),iP r.2])) 53 [.agg (aP e1),.list (List.map aO.cells bM)]:=by
  unfold qQ; exact Z1 ⟨25,[],[]⟩ Z Tryz.func53 Z Z Z Z
instance (bM :List aO) (l1:List aK) (n_ eZ):LE (rT bM l1 n_ eZ) (fun j p=>rT bM l1 j p) n_ eZ [] [] [] [1,5] (fun v w p=>[(9,iP p)]) (fun v w p s=>s):=⟨Z⟩
instance adN (s1:Str) (bM:List aO):CT Tryz.prog (Ch s1 bM) (fun r=>.ret (iP r)) 22 [.str s1,.list (List.map aO.cells bM)]:=by
  unfold Ch; exact Z1 ⟨59,[],[]⟩ Z Tryz.func22 Z Z Z Z
section
variable [I6]
instance (s1 :Str) (bM:List aO) (l1:List Str) (m1:List Str) (n_ eZ):LE (ko s1 bM l1 m1 n_ eZ) (fun j p=>ko s1 bM l1 m1 j p) n_ eZ [] [] [] [0,1,5,7] (fun v w p=>[(9,iP p)]) (fun v w p s=>s):=⟨Z⟩
instance U2 (s1:Str) (bM:List aO):CT Tryz.prog (oW s1 bM) (fun r=>.ret (.bool r)) 6 [.str s1,.list (List.map aO.cells bM)]:=by
  unfold oW; exact Z1 ⟨64,[],[]⟩ Z Tryz.func6 Z Z Z Z
theorem GZ (s1:Str) (bM:List aO) {r0:Bool} (hf:oW s1 bM=some r0) {τ:List aQ} {Q:dL→List aQ→Prop} (h:Q (.ret (.bool r0)) τ):AC Tryz.prog 6 [.str s1,.list (List.map aO.cells bM)] τ Q:=CT.h hf h
end
end Go.Proofs.YtpbjbkhfpjckoaaGreatDoor
