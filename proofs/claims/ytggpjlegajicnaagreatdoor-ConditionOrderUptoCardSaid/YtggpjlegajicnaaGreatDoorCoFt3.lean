/- Proved here: nothing: the functional texts of the functions that the statements reach, as our program wrote them. -/
import Derived.Test.YtggpjlegajicnaaGreatDoorCoFt1
import Derived.Test.YtggpjlegajicnaaGreatDoorCoFt2
set_option linter.unusedVariables false
set_option linter.unusedSimpArgs false
set_option linter.unusedSectionVars false
namespace Go.Ft
open Go
def Bw (o8:aj→Option Int) (e1:aj):Nat→Int→Int→Option Int
 | 0,_,_=>none
 | bT + 1,n1,i1=>
  if decide (i1 < (e1.args.length:Int)) then
   au (idx e1.args i1) fun e2=>
   au (o8 e2) fun x1=>
   Bw o8 e1 bT (bZ (n1 + x1)) (bZ (i1 + 1))
  else
   some n1

def Iw (o8:aj→Option Int) (e1:aj):Option Int:=
 Bw o8 e1 BIG 1 0

def sQ :Nat→aj→Option Int
 | 0,_=>none
 | k + 1,iY=>Iw (sQ k) iY

def JJ (iY:aj):Option Int:=sQ BIG iY

def yX (e1:aj) (n1:Int):Option Bool:=
 au (JJ e1) fun x1=>
 some ((decide (x1≤5000)) && (decide (n1≤300)))

def El (s1:Str):Nat→Int→Option Bool
 | 0,_=>none
 | bT + 1,i1=>
  if decide (i1 < (s1.length:Int)) then
   au (idx s1 i1) fun x1=>
   au (Ku x1) fun x2=>
   au (
     if !x2 then
      if i1 == 0 then
       some true
      else
       au (idx s1 i1) fun x3=>
       au (Db x3) fun x4=>
       some (!x4)
     else
      some false) fun b1=>
   if b1 then
    some false
   else
    El s1 bT (bZ (i1 + 1))
  else
   some ((decide (1≤(s1.length:Int))) && (decide ((s1.length:Int)≤64)))

def ML (s1:Str):Option Bool:=
 El s1 BIG 0

def yK (s1:Str):Option Bool:=
 au (ML s1) fun x1=>
 some (((x1 && (!(s1 == ([116,114,117,101]:Str)))) && (!(s1 == ([102,97,108,115,101]:Str)))) && (!(s1 == ([110,117,108,108]:Str))))

def JL (v1:ah):Option Bool:=
 if ((v1.dO && (v1.kind != 1)) || ((v1.dI != 0) && (v1.kind != 2))) || ((!(v1.bR == ([]:Str))) && (v1.kind != 3)) then
  some false
 else
  if ((decide (0 < (v1.aO.length:Int))) && (v1.kind != 4)) && (v1.kind != 5) then
   some false
  else
   some (((v1.keys.length:Int) == 0) || (v1.kind == 5))

def Ob (s1:Str):Option Bool:=
 some ((decide (1≤(s1.length:Int))) && (decide ((s1.length:Int)≤64)))

def qW (v1:ah):Nat→Int→Option Bool
 | 0,_=>none
 | bT + 1,i1=>
  if decide (i1 < (v1.keys.length:Int)) then
   au (idx v1.keys i1) fun e1=>
   au (Ob e1) fun x1=>
   au (
     if !x1 then
      some true
     else
      if decide (0 < i1) then
       au (idx v1.keys (bZ (i1 - 1))) fun e2=>
       au (idx v1.keys i1) fun e3=>
       au (qN e2 e3) fun x2=>
       some (decide (0≤x2))
      else
       some false) fun b1=>
   if b1 then
    some false
   else
    qW v1 bT (bZ (i1 + 1))
  else
   some ((v1.keys.length:Int) == (v1.aO.length:Int))

def zN (v1:ah):Option Bool:=
 qW v1 BIG 0

def BF (o9:ah→Int→Option Int) (v1:ah) (bV:Int):Nat→Int→Option Int
 | 0,_=>none
 | bT + 1,i1=>
  if decide (i1 < (v1.aO.length:Int)) then
   au (idx v1.aO i1) fun e1=>
   au (o9 e1 (bZ (bV + 1))) fun e2=>
   if e2 != 0 then
    some e2
   else
    BF o9 v1 bV bT (bZ (i1 + 1))
  else
   some 0

def IB (o9:ah→Int→Option Int) (v1:ah) (bV:Int):Option Int:=
 if decide (16 < bV) then
  some 13
 else
  au (
    if (decide (v1.kind < 0)) || (decide (5 < v1.kind)) then
     some true
    else
     au (JL v1) fun x1=>
     some (!x1)) fun b1=>
  if b1 then
   some 1
  else
   if (decide (v1.dI < (-9007199254740992))) || (decide (9007199254740992 < v1.dI)) then
    some 2
   else
    if ((decide (4096 < (v1.bR.length:Int))) || (decide (1024 < (v1.aO.length:Int)))) || (decide (1024 < (v1.keys.length:Int))) then
     some 3
    else
     au (
       if v1.kind == 5 then
        au (zN v1) fun x2=>
        some (!x2)
       else
        some false) fun b2=>
     if b2 then
      some 1
     else
      if ((decide (4≤v1.kind)) && ((v1.aO.length:Int) == 0)) && (bV == 16) then
       some 13
      else
       BF o9 v1 bV BIG 0

def sS :Nat→ah→Int→Option Int
 | 0,_,_=>none
 | k + 1,qg,gu=>IB (sS k) qg gu

def R6 (qg:ah) (gu:Int):Option Int:=sS BIG qg gu

def yO (v1:ah):Option Int:=
 R6 v1 1

def JI (e1:aj):Option Bool:=
 if e1.kind == 1 then
  some ((e1.args.length:Int) == 0)
 else
  if e1.kind == 2 then
   some ((e1.args.length:Int) == 0)
  else
   if e1.kind == 3 then
    some ((e1.args.length:Int) == 1)
   else
    if e1.kind == 6 then
     some ((e1.args.length:Int) == 1)
    else
     if e1.kind == 4 then
      some ((e1.args.length:Int) == 2)
     else
      if e1.kind == 7 then
       some ((e1.args.length:Int) == 2)
      else
       if e1.kind == 8 then
        some ((e1.args.length:Int) == 3)
       else
        some (((e1.kind == 5) || (e1.kind == 9)) || (e1.kind == 10))

def Bv (op1:Str):Option Int:=
 if op1 == ([124,124]:Str) then
  some 2
 else
  if op1 == ([38,38]:Str) then
   some 3
  else
   if op1 == ([61,61]:Str) then
    some 4
   else
    if op1 == ([33,61]:Str) then
     some 4
    else
     if op1 == ([60]:Str) then
      some 4
     else
      if op1 == ([60,61]:Str) then
       some 4
      else
       if op1 == ([62]:Str) then
        some 4
       else
        if op1 == ([62,61]:Str) then
         some 4
        else
         if op1 == ([43]:Str) then
          some 5
         else
          if op1 == ([45]:Str) then
           some 5
          else
           if op1 == ([42]:Str) then
            some 6
           else
            if op1 == ([47]:Str) then
             some 6
            else
             if op1 == ([37]:Str) then
              some 6
             else
              some 0

def JH (e1:aj):Option Bool:=
 if e1.kind == 2 then
  yK e1.name
 else
  if e1.kind == 3 then
   yK e1.name
  else
   if e1.kind == 5 then
    yK e1.name
   else
    if e1.kind == 6 then
     some ((e1.name == ([33]:Str)) || (e1.name == ([45]:Str)))
    else
     if e1.kind == 7 then
      au (Bv e1.name) fun x4=>
      some (decide (0 < x4))
     else
      some (e1.name == ([]:Str))

def vZ (e1:aj):Nat→Int→Option Bool
 | 0,_=>none
 | bT + 1,i1=>
  if decide (i1 < (e1.keys.length:Int)) then
   au (idx e1.keys i1) fun e2=>
   au (
     if decide ((e2.length:Int) < 1) then
      some true
     else
      au (idx e1.keys i1) fun e3=>
      some (decide (64 < (e3.length:Int)))) fun b4=>
   if b4 then
    some false
   else
    vZ e1 bT (bZ (i1 + 1))
  else
   some ((e1.keys.length:Int) == (e1.args.length:Int))

def Gw (e1:aj):Option Bool:=
 au (JI e1) fun x1=>
 au (
   if !x1 then
    some true
   else
    au (JH e1) fun x2=>
    some (!x2)) fun b1=>
 au (
   if b1 then
    some true
   else
    if e1.kind != 1 then
     au (Gy e1.value (ah.mk 0 false 0 ([]:Str) [] [])) fun x3=>
     some (!x3)
    else
     some false) fun b2=>
 if b2 then
  some false
 else
  if e1.kind != 10 then
   some ((e1.keys.length:Int) == 0)
  else
   vZ e1 BIG 0

def yJ (Cy:List Str) (i1:Int) (Lp:Int→Option Bool):Nat→Int→Option Bool
 | 0,_=>none
 | KQ + 1,rV=>
  if decide (rV < i1) then
   au (idx Cy i1) fun e1=>
   au (idx Cy rV) fun e2=>
   if e1 == e2 then
    some true
   else
    yJ Cy i1 Lp KQ (bZ (rV + 1))
  else
   Lp (bZ (i1 + 1))

def sN (Cy:List Str):Nat→Int→Option Bool
 | 0,_=>none
 | bT + 1,i1=>
  if decide (i1 < (Cy.length:Int)) then
   yJ Cy i1 (sN Cy bT) BIG 0
  else
   some false

def JG (Cy:List Str):Option Bool:=
 sN Cy BIG 0

def Bu (o7:aj→Int→Option Int) (e1:aj) (bV:Int):Nat→Int→Option Int
 | 0,_=>none
 | bT + 1,i1=>
  if decide (i1 < (e1.args.length:Int)) then
   au (idx e1.args i1) fun e2=>
   au (o7 e2 (bZ (bV + 1))) fun f2=>
   if f2 != 0 then
    some f2
   else
    Bu o7 e1 bV bT (bZ (i1 + 1))
  else
   some 0

def Iu (o7:aj→Int→Option Int) (e1:aj) (bV:Int):Option Int:=
 if decide (16 < bV) then
  some 13
 else
  au (Gw e1) fun x1=>
  if !x1 then
   some 1
  else
   au (yO e1.value) fun f1=>
   if (e1.kind == 1) && (f1 != 0) then
    some f1
   else
    if decide (1024 < (e1.args.length:Int)) then
     some 3
    else
     au (JG e1.keys) fun x2=>
     if x2 then
      some 7
     else
      Bu o7 e1 bV BIG 0

def sO :Nat→aj→Int→Option Int
 | 0,_,_=>none
 | k + 1,iY,gu=>Iu (sO k) iY gu

def R5 (iY:aj) (gu:Int):Option Int:=sO BIG iY gu

def F6 (e1:aj):Option Int:=
 au (JJ e1) fun x1=>
 if decide (4096 < x1) then
  some 15
 else
  R5 e1 1

def rE (name1:Str):Option Int:=
 if name1 == ([108,101,110]:Str) then
  some 1
 else
  if name1 == ([108,111,119,101,114]:Str) then
   some 1
  else
   if name1 == ([117,112,112,101,114]:Str) then
    some 1
   else
    if name1 == ([115,116,114,105,110,103]:Str) then
     some 1
    else
     if name1 == ([105,110,116]:Str) then
      some 1
     else
      if name1 == ([107,101,121,115]:Str) then
       some 1
      else
       if name1 == ([99,111,110,116,97,105,110,115]:Str) then
        some 2
       else
        if name1 == ([106,111,105,110]:Str) then
         some 2
        else
         if name1 == ([115,112,108,105,116]:Str) then
          some 2
         else
          if name1 == ([115,116,97,114,116,115,119,105,116,104]:Str) then
           some 2
          else
           if name1 == ([101,110,100,115,119,105,116,104]:Str) then
            some 2
           else
            if name1 == ([100,101,102,97,117,108,116]:Str) then
             some 2
            else
             some (-1)
end Go.Ft
