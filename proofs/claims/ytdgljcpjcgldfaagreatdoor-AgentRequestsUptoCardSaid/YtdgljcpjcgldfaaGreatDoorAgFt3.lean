/- Proved here: nothing: the functional texts of the functions that the statements reach, as our program wrote them. -/
import Derived.Test.YtdgljcpjcgldfaaGreatDoorAgFt1
set_option linter.unusedVariables false
set_option linter.unusedSimpArgs false
set_option linter.unusedSectionVars false
namespace Go.Ft
open Go
def dh (s1:List Str):Option (List Str):=
 app [] s1
def eT (s1:List Int):Option (List Int):=
 app [] s1
def bA (s1:List aj):Option (List aj):=
 app [] s1
def bg (s1:List ah):Option (List ah):=
 app [] s1
def jH (Fg:aJ):Option aJ:=
 aV (bA Fg.inputs) fun x1=>
 aV (bA Fg.outputs) fun x2=>
 aV (bg Fg.tests) fun x3=>
 some (aJ.mk Fg.status Fg.bU x1 x2 x3 Fg.child)
def iL (t1:aF) (bM:Int):Option (au × Bool):=
 if decide (t1.sent < (t1.effect.log.length:Int)) then
  aV (sl t1.effect.log (if t1.sent < 0 then 0 else t1.sent) (if (fU ((if t1.sent < 0 then 0 else t1.sent) + 512)) < (t1.effect.log.length:Int) then (fU ((if t1.sent < 0 then 0 else t1.sent) + 512)) else (t1.effect.log.length:Int))) fun x1=>
  some ((au.mk 11 ([]:Str) (aK.mk ([]:Str) ([]:Str)) t1.sent t1.work.bQ.token 0 x1 (aG.mk ([]:Str) ([]:Str) false) [] (aI.mk ([]:Str) [] 0 0 false 0 0 0 []) (ak.mk ([]:Str) ([]:Str) 0 [] []) (av.mk (aT.mk ([]:Str) 0 ([]:Str)) ([]:Str) 0 0 0 0) (aJ.mk 0 0 [] [] [] ([]:Str))),true)
 else
  if decide (bM < t1.done) then
   some ((au.mk 0 ([]:Str) (aK.mk ([]:Str) ([]:Str)) 0 0 0 ([]:Str) (aG.mk ([]:Str) ([]:Str) false) [] (aI.mk ([]:Str) [] 0 0 false 0 0 0 []) (ak.mk ([]:Str) ([]:Str) 0 [] []) (av.mk (aT.mk ([]:Str) 0 ([]:Str)) ([]:Str) 0 0 0 0) (aJ.mk 0 0 [] [] [] ([]:Str))),false)
  else
   if decide (t1.saved < (t1.effect.saves.length:Int)) then
    aV (idx t1.effect.saves (if t1.saved < 0 then 0 else t1.saved)) fun e1=>
    some ((au.mk 13 ([]:Str) (aK.mk ([]:Str) ([]:Str)) 0 t1.work.bQ.token 0 ([]:Str) (aG.mk ([]:Str) ([]:Str) false) [] (aI.mk ([]:Str) [] 0 0 false 0 0 0 []) (ak.mk ([]:Str) ([]:Str) 0 [] []) e1 (aJ.mk 0 0 [] [] [] ([]:Str))),true)
   else
    aV (jH t1.effect.result) fun x2=>
    some ((au.mk 12 ([]:Str) (aK.mk ([]:Str) ([]:Str)) (t1.effect.log.length:Int) t1.work.bQ.token 0 ([]:Str) (aG.mk ([]:Str) ([]:Str) false) [] (aI.mk ([]:Str) [] 0 0 false 0 0 0 []) (ak.mk ([]:Str) ([]:Str) 0 [] []) (av.mk (aT.mk ([]:Str) 0 ([]:Str)) ([]:Str) 0 0 0 0) x2),true)
def dR (a1:aH) (bM:Int):Nat→List au→Int→Option (List au)
 | 0,_,_=>none
 | eY + 1,kG,x3=>
  if decide (x3 < (a1.tasks.length:Int)) then
   aV (idx a1.tasks x3) fun e1=>
   nK (iL e1 bM) fun x4 ok1=>
   if ok1 then
    aV (app kG [(au.mk x4.kind a1.worker.iD x4.ref x4.n x4.token x4.bU x4.text x4.origin x4.args x4.worker x4.secret x4.entry x4.result)]) fun Bq=>
    dR a1 bM eY Bq (fU (x3 + 1))
   else
    dR a1 bM eY kG (fU (x3 + 1))
  else
   some kG
def dQ (a1:aH) (bM:Int):Nat→List au→Int→Option (List au)
 | 0,_,_=>none
 | wo + 1,kF,x5=>
  if decide (x5 < (a1.tasks.length:Int)) then
   aV (idx a1.tasks x5) fun e2=>
   nK (iL e2 bM) fun x6 JD=>
   if JD then
    aV (app kF [(au.mk x6.kind a1.worker.iD x6.ref x6.n x6.token x6.bU x6.text x6.origin x6.args x6.worker x6.secret x6.entry x6.result)]) fun Bp=>
    dQ a1 bM wo Bp (fU (x5 + 1))
   else
    dQ a1 bM wo kF (fU (x5 + 1))
  else
   some kF
def iI (a1:aH) (bM:Int):Option (List au):=
 if !a1.up then
  some []
 else
  if !a1.joined then
   aV (dh a1.worker.labels) fun x1=>
   aV (eT a1.worker.tokens) fun x2=>
   some [(au.mk 3 ([]:Str) (aK.mk ([]:Str) ([]:Str)) 0 0 0 ([]:Str) (aG.mk ([]:Str) ([]:Str) false) [] (aI.mk a1.worker.iD x1 a1.worker.trust a1.worker.slots a1.worker.cu a1.worker.phase a1.worker.gu a1.worker.bR x2) (ak.mk ([]:Str) ([]:Str) 0 [] []) (av.mk (aT.mk ([]:Str) 0 ([]:Str)) ([]:Str) 0 0 0 0) (aJ.mk 0 0 [] [] [] ([]:Str)))]
  else
   if decide (a1.gu≤bM) then
    aV (app [] [(au.mk 6 a1.worker.iD (aK.mk ([]:Str) ([]:Str)) 0 0 0 ([]:Str) (aG.mk ([]:Str) ([]:Str) false) [] (aI.mk ([]:Str) [] 0 0 false 0 0 0 []) (ak.mk ([]:Str) ([]:Str) 0 [] []) (av.mk (aT.mk ([]:Str) 0 ([]:Str)) ([]:Str) 0 0 0 0) (aJ.mk 0 0 [] [] [] ([]:Str)))]) fun Br=>
    dR a1 bM BIG Br 0
   else
    dQ a1 bM BIG [] 0
def kH (t1:aF) (id1:Str) (bM:Int):Option (au × Bool):=
 if decide (t1.sent < (t1.effect.log.length:Int)) then
  aV (sl t1.effect.log t1.sent (if (fU (t1.sent + 512)) < (t1.effect.log.length:Int) then (fU (t1.sent + 512)) else (t1.effect.log.length:Int))) fun x1=>
  some ((au.mk 11 id1 (aK.mk ([]:Str) ([]:Str)) t1.sent t1.work.bQ.token 0 x1 (aG.mk ([]:Str) ([]:Str) false) [] (aI.mk ([]:Str) [] 0 0 false 0 0 0 []) (ak.mk ([]:Str) ([]:Str) 0 [] []) (av.mk (aT.mk ([]:Str) 0 ([]:Str)) ([]:Str) 0 0 0 0) (aJ.mk 0 0 [] [] [] ([]:Str))),true)
 else
  if decide (bM < t1.done) then
   some ((au.mk 0 ([]:Str) (aK.mk ([]:Str) ([]:Str)) 0 0 0 ([]:Str) (aG.mk ([]:Str) ([]:Str) false) [] (aI.mk ([]:Str) [] 0 0 false 0 0 0 []) (ak.mk ([]:Str) ([]:Str) 0 [] []) (av.mk (aT.mk ([]:Str) 0 ([]:Str)) ([]:Str) 0 0 0 0) (aJ.mk 0 0 [] [] [] ([]:Str))),false)
  else
   if decide (t1.saved < (t1.effect.saves.length:Int)) then
    aV (idx t1.effect.saves t1.saved) fun e1=>
    some ((au.mk 13 id1 (aK.mk ([]:Str) ([]:Str)) 0 t1.work.bQ.token 0 ([]:Str) (aG.mk ([]:Str) ([]:Str) false) [] (aI.mk ([]:Str) [] 0 0 false 0 0 0 []) (ak.mk ([]:Str) ([]:Str) 0 [] []) e1 (aJ.mk 0 0 [] [] [] ([]:Str))),true)
   else
    some ((au.mk 12 id1 (aK.mk ([]:Str) ([]:Str)) (t1.effect.log.length:Int) t1.work.bQ.token 0 ([]:Str) (aG.mk ([]:Str) ([]:Str) false) [] (aI.mk ([]:Str) [] 0 0 false 0 0 0 []) (ak.mk ([]:Str) ([]:Str) 0 [] []) (av.mk (aT.mk ([]:Str) 0 ([]:Str)) ([]:Str) 0 0 0 0) t1.effect.result),true)
def eP (a1:aH) (bM:Int):Nat→List au→Int→Option (List au)
 | 0,_,_=>none
 | eY + 1,kG,i1=>
  if decide (i1 < (a1.tasks.length:Int)) then
   aV (idx a1.tasks i1) fun e1=>
   nK (kH e1 a1.worker.iD bM) fun x1 ok1=>
   if ok1 then
    aV (app kG [x1]) fun Bq=>
    eP a1 bM eY Bq (fU (i1 + 1))
   else
    eP a1 bM eY kG (fU (i1 + 1))
  else
   some kG
def eO (a1:aH) (bM:Int):Nat→List au→Int→Option (List au)
 | 0,_,_=>none
 | wo + 1,kF,i2=>
  if decide (i2 < (a1.tasks.length:Int)) then
   aV (idx a1.tasks i2) fun e2=>
   nK (kH e2 a1.worker.iD bM) fun x2 JD=>
   if JD then
    aV (app kF [x2]) fun Bp=>
    eO a1 bM wo Bp (fU (i2 + 1))
   else
    eO a1 bM wo kF (fU (i2 + 1))
  else
   some kF
def jC (a1:aH) (bM:Int):Option (List au):=
 if !a1.up then
  some []
 else
  if !a1.joined then
   some [(au.mk 3 ([]:Str) (aK.mk ([]:Str) ([]:Str)) 0 0 0 ([]:Str) (aG.mk ([]:Str) ([]:Str) false) [] a1.worker (ak.mk ([]:Str) ([]:Str) 0 [] []) (av.mk (aT.mk ([]:Str) 0 ([]:Str)) ([]:Str) 0 0 0 0) (aJ.mk 0 0 [] [] [] ([]:Str)))]
  else
   if decide (a1.gu≤bM) then
    aV (app [] [(au.mk 6 a1.worker.iD (aK.mk ([]:Str) ([]:Str)) 0 0 0 ([]:Str) (aG.mk ([]:Str) ([]:Str) false) [] (aI.mk ([]:Str) [] 0 0 false 0 0 0 []) (ak.mk ([]:Str) ([]:Str) 0 [] []) (av.mk (aT.mk ([]:Str) 0 ([]:Str)) ([]:Str) 0 0 0 0) (aJ.mk 0 0 [] [] [] ([]:Str)))]) fun Br=>
    eP a1 bM BIG Br 0
   else
    eO a1 bM BIG [] 0
def j4 (a1:au) (b1:au):Option Bool:=
 aV (
   if ((((((((a1.kind == b1.kind) && (a1.name == b1.name)) && (aK.oC a1.ref b1.ref)) && (a1.n == b1.n)) && (a1.token == b1.token)) && (a1.bU == b1.bU)) && (a1.text == b1.text)) && (aG.oC a1.origin b1.origin)) && ((a1.args.length:Int) == (b1.args.length:Int)) then
    mH a1.worker b1.worker
   else
    some false) fun b2=>
 aV (
   if b2 then
    kP a1.secret b1.secret
   else
    some false) fun b3=>
 if b3 && (av.oC a1.entry b1.entry) then
  jo a1.result b1.result
 else
  some false
def gF (a1:List au) (b1:List au):Nat→Int→Option Bool
 | 0,_=>none
 | eY + 1,i1=>
  if decide (i1 < (a1.length:Int)) then
   aV (idx a1 i1) fun e1=>
   aV (idx b1 i1) fun e2=>
   aV (j4 e1 e2) fun x1=>
   if !x1 then
    some false
   else
    gF a1 b1 eY (fU (i1 + 1))
  else
   some true
def mE (a1:List au) (b1:List au):Option Bool:=
 if (a1.length:Int) != (b1.length:Int) then
  some false
 else
  gF a1 b1 BIG 0
def gY (a1:aH) (bM:Int):Option Bool:=
 aV (kM a1) fun x1=>
 if !x1 then
  jP
 else
  aV (iI a1 bM) fun x3=>
  aV (jC a1 bM) fun x4=>
  aV (mE x3 x4) fun x5=>
  if x5 then
   jP
  else
   some false
end Go.Ft
