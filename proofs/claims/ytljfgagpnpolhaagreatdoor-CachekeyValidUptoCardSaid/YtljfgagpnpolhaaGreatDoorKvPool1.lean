/- Proved here: nothing: further functional texts, as our program wrote them. -/
import Derived.Test.YtljfgagpnpolhaaGreatDoorKvFt1
set_option linter.unusedVariables false
set_option linter.unusedSimpArgs false
set_option linter.unusedSectionVars false
namespace Go.Ft
open Go
structure kJ where
 kind:Int
 elem:List kJ
def zy (Gd:Int):Option Str:=
 if (decide (Gd < 0)) || (decide (8≤Gd)) then
 some ([]:Str)
 else
 idx ([([97,110,121]:Str),([110,117,108,108]:Str),([98,111,111,108]:Str),([105,110,116]:Str),([115,116,114,105,110,103]:Str),([108,105,115,116]:Str),([109,97,112]:Str),([110,101,118,101,114]:Str)]:List Str) Gd
def qh (Gd:Int):Option Bool:=
 some ((Gd == 5) || (Gd == 6))
def lN :Nat→Int→kJ→Option Int
 | 0,_,_=>none
 | dw + 1,dx,t2=>
 if decide (16 < dx) then
  some 13
 else
  aA (zy t2.kind) fun x1=>
  aA (
   if x1 == ([]:Str) then
   some true
   else
   aA (qh t2.kind) fun x2=>
   some (x2 && ((t2.elem.length:Int) != 1))) fun b1=>
  aA (
   if b1 then
   some true
   else
   aA (qh t2.kind) fun x3=>
   some ((!x3) && ((t2.elem.length:Int) != 0))) fun b2=>
  if b2 then
  some 1
  else
  aA (qh t2.kind) fun x4=>
  if !x4 then
   some 0
  else
   aA (idx t2.elem 0) fun e1=>
   lN dw (bI (dx + 1)) e1
def xK (t1:kJ):Option Int:=
 lN BIG 1 t1
def Ns (Gd:Int):Option Bool:=
 some ((Gd == 5) || (Gd == 6))
def IL (OV:kJ→Int→Option Int) (t1:kJ) (dx:Int):Option Int:=
 if decide (16 < dx) then
 some 13
 else
 if (decide (t1.kind < 0)) || (decide (7 < t1.kind)) then
  some 1
 else
  aA (Ns t1.kind) fun x1=>
  if !x1 then
  if decide (0 < (t1.elem.length:Int)) then
   some 1
  else
   some 0
  else
  if (t1.elem.length:Int) != 1 then
   some 1
  else
   aA (idx t1.elem 0) fun e1=>
   OV e1 (bI (dx + 1))
def zJ :Nat→kJ→Int→Option Int
 | 0,_,_=>none
 | k + 1,ut1,fM=>IL (zJ k) ut1 fM
def Va (ut1:kJ) (fM:Int):Option Int:=zJ BIG ut1 fM
def Hg (t1:kJ):Option Int:=
 Va t1 1
end Go.Ft
