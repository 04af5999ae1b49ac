/- Proved here: nothing: the functional texts of the functions that the statements reach, as our program wrote them. -/
import Derived.Test.YtdgljcpjcgldfaaGreatDoorAgFt1
set_option linter.unusedVariables false
set_option linter.unusedSimpArgs false
set_option linter.unusedSectionVars false
namespace Go.Ft
open Go
def jX (a1:aH):Option aH:=
 some (aH.mk a1.worker a1.up a1.joined a1.gu a1.heard a1.bR [])
def lH (a1:aH):Option aH:=
 jX (aH.mk a1.worker false false a1.gu a1.heard a1.bR a1.tasks)
def tC (Fu:Bool):Option Int:=
 if Fu then
  some (-9223372036854775808)
 else
  some 9223372036854775807
def qK (a1:Int) (b1:Int):Option Int:=
 if ((decide (a1 < 0)) == (decide (b1 < 0))) && (!((decide ((fU (a1 + b1)) < 0)) == (decide (a1 < 0)))) then
  tC (decide (a1 < 0))
 else
  some (fU (a1 + b1))
def jI (a1:aH) (bM:Int):Option aH:=
 if !a1.up then
  some a1
 else
  if (a1.bR != 0) && (decide (a1.bR≤bM)) then
   lH a1
  else
   aV (qK a1.heard 30000) fun x2=>
   if decide (x2≤bM) then
    jX a1
   else
    some a1
def mD (a1:aH):Option aH:=
 some (aH.mk a1.worker false false a1.gu a1.heard a1.bR [])
def mR (a1:Int) (b1:Int):Option Int:=
 if (decide (0 < a1)) && (decide ((fU (9223372036854775807 - a1)) < b1)) then
  some 9223372036854775807
 else
  if (decide (a1 < 0)) && (decide (b1 < (fU ((-9223372036854775808) - a1)))) then
   some (-9223372036854775808)
  else
   some (fU (a1 + b1))
def jd (a1:aH) (bM:Int):Option aH:=
 if !a1.up then
  some a1
 else
  if (a1.bR != 0) && (decide (a1.bR≤bM)) then
   mD a1
  else
   aV (mR a1.heard 30000) fun x2=>
   if decide (x2≤bM) then
    some (aH.mk a1.worker a1.up a1.joined a1.gu a1.heard a1.bR [])
   else
    some a1
def iq (a1:List ak) (b1:List ak):Nat→Int→Option Bool
 | 0,_=>none
 | eY + 1,i1=>
  if decide (i1 < (a1.length:Int)) then
   aV (idx a1 i1) fun e1=>
   aV (idx b1 i1) fun e2=>
   aV (kP e1 e2) fun x1=>
   if !x1 then
    some false
   else
    iq a1 b1 eY (fU (i1 + 1))
  else
   some true
def nY (a1:List ak) (b1:List ak):Option Bool:=
 if (a1.length:Int) != (b1.length:Int) then
  some false
 else
  iq a1 b1 BIG 0
def fu (a1:List av) (b1:List av):Nat→Int→Option Bool
 | 0,_=>none
 | eY + 1,i1=>
  if decide (i1 < (a1.length:Int)) then
   aV (idx a1 i1) fun e1=>
   aV (idx b1 i1) fun e2=>
   if !(av.oC e1 e2) then
    some false
   else
    fu a1 b1 eY (fU (i1 + 1))
  else
   some true
def jq (a1:List av) (b1:List av):Option Bool:=
 if (a1.length:Int) != (b1.length:Int) then
  some false
 else
  fu a1 b1 BIG 0
def fA (a1:List aA) (b1:List aA):Nat→Int→Option Bool
 | 0,_=>none
 | eY + 1,i1=>
  if decide (i1 < (a1.length:Int)) then
   aV (idx a1 i1) fun e1=>
   aV (idx b1 i1) fun e2=>
   if !(aA.oC e1 e2) then
    some false
   else
    fA a1 b1 eY (fU (i1 + 1))
  else
   some true
def j6 (a1:List aA) (b1:List aA):Option Bool:=
 if (a1.length:Int) != (b1.length:Int) then
  some false
 else
  fA a1 b1 BIG 0
def nV (a1:aC) (b1:aC):Option Bool:=
 aV (
   if (((bn.oC a1.bQ b1.bQ) && (a1.job.iD == b1.job.iD)) && ((a1.job.steps.length:Int) == (b1.job.steps.length:Int))) && (aG.oC a1.origin b1.origin) then
    nY a1.bB b1.bB
   else
    some false) fun b2=>
 aV (
   if b2 then
    ig a1.artifacts b1.artifacts
   else
    some false) fun b3=>
 aV (
   if b3 then
    jq a1.entries b1.entries
   else
    some false) fun b4=>
 aV (
   if b4 then
    kg a1.tests b1.tests
   else
    some false) fun b5=>
 aV (
   if b5 then
    j6 a1.times b1.times
   else
    some false) fun b6=>
 if b6 then
  kg a1.ignored b1.ignored
 else
  some false
def nX (a1:aU) (b1:aU):Option Bool:=
 aV (
   if (a1.log == b1.log) && (a1.time == b1.time) then
    jq a1.saves b1.saves
   else
    some false) fun b2=>
 if b2 then
  jo a1.result b1.result
 else
  some false
def nW (a1:aF) (b1:aF):Option Bool:=
 aV (nV a1.work b1.work) fun x1=>
 if (((x1 && (a1.began == b1.began)) && (a1.done == b1.done)) && (a1.sent == b1.sent)) && (a1.saved == b1.saved) then
  nX a1.effect b1.effect
 else
  some false
def gB (a1:List aF) (b1:List aF):Nat→Int→Option Bool
 | 0,_=>none
 | eY + 1,i1=>
  if decide (i1 < (a1.length:Int)) then
   aV (idx a1 i1) fun e1=>
   aV (idx b1 i1) fun e2=>
   aV (nW e1 e2) fun x1=>
   if !x1 then
    some false
   else
    gB a1 b1 eY (fU (i1 + 1))
  else
   some true
def mq (a1:List aF) (b1:List aF):Option Bool:=
 if (a1.length:Int) != (b1.length:Int) then
  some false
 else
  gB a1 b1 BIG 0
def j5 (a1:aH) (b1:aH):Option Bool:=
 aV (mH a1.worker b1.worker) fun x1=>
 if ((((x1 && (a1.up == b1.up)) && (a1.joined == b1.joined)) && (a1.gu == b1.gu)) && (a1.heard == b1.heard)) && (a1.bR == b1.bR) then
  mq a1.tasks b1.tasks
 else
  some false
def iJ (a1:aH) (bM:Int):Option Bool:=
 aV (kM a1) fun x1=>
 if !x1 then
  jP
 else
  aV (jI a1 bM) fun x3=>
  aV (jd a1 bM) fun x4=>
  aV (j5 x3 x4) fun x5=>
  aV (
    if x5 then
     aV (lH a1) fun x6=>
     aV (mD a1) fun x7=>
     j5 x6 x7
    else
     some false) fun b1=>
  if b1 then
   jP
  else
   some false
end Go.Ft
