/- Proved here: nothing: the functional texts of the functions that the statements reach, as our program wrote them. -/
import Derived.Test.YtggpjlegajicnaaGreatDoorCoFt1
import Derived.Test.YtggpjlegajicnaaGreatDoorCoFt2
import Derived.Test.YtggpjlegajicnaaGreatDoorCoFt3
set_option linter.unusedVariables false
set_option linter.unusedSimpArgs false
set_option linter.unusedSectionVars false
namespace Go.Ft
open Go
def kH (fE:Int):Option ak:=
 some (ak.mk fE [])

def CX (bG:List aH):Option (List aH):=
 au (kH 2) fun x1=>
 app [(aH.mk ([97,108,119,97,121,115]:Str) x1),(aH.mk ([99,97,110,99,101,108,108,101,100]:Str) x1),(aH.mk ([102,97,105,108,117,114,101]:Str) x1),(aH.mk ([115,107,105,112,112,101,100]:Str) x1),(aH.mk ([115,117,99,99,101,115,115]:Str) x1)] bG

def Da (cB:List aH) (i1:Int) (OU:Int→Option Int):Nat→Int→Option Int
 | 0,_=>none
 | KQ + 1,rV=>
  if decide (rV < i1) then
   au (idx cB rV) fun e4=>
   au (idx cB i1) fun e5=>
   if e4.name == e5.name then
    some 7
   else
    Da cB i1 OU KQ (bZ (rV + 1))
  else
   OU (bZ (i1 + 1))

def xu (cB:List aH):Nat→Int→Option Int
 | 0,_=>none
 | bT + 1,i1=>
  if decide (i1 < (cB.length:Int)) then
   au (idx cB i1) fun e1=>
   au (yK e1.name) fun x1=>
   if !x1 then
    some 1
   else
    au (idx cB i1) fun e2=>
    au (yL e2.rY) fun e3=>
    if e3 != 0 then
     some e3
    else
     Da cB i1 (xu cB bT) BIG 0
  else
   some 0

def QH (cB:List aH):Option Int:=
 if decide (1024 < (cB.length:Int)) then
  some 3
 else
  xu cB BIG 0

def kP (fE:Int) (t1:ak):Option ak:=
 some (ak.mk fE [t1])

def Ai (A8:ak→ak→Option ak) (a1:ak) (b1:ak):Option ak:=
 if a1.kind == 7 then
  some b1
 else
  if b1.kind == 7 then
   some a1
  else
   if a1.kind != b1.kind then
    kH 0
   else
    au (Df a1.kind) fun x2=>
    if x2 then
     au (idx a1.elem 0) fun e1=>
     au (idx b1.elem 0) fun e2=>
     au (A8 e1 e2) fun x3=>
     kP a1.kind x3
    else
     some a1

def tZ :Nat→ak→ak→Option ak
 | 0,_,_=>none
 | k + 1,sF,sD=>Ai (tZ k) sF sD

def MN (sF:ak) (sD:ak):Option ak:=tZ BIG sF sD

def JK (wo:ah→Option ak) (v1:ah):Nat→Int→ak→Option ak
 | 0,_,_=>none
 | bT + 1,i1,t1=>
  if decide (i1 < (v1.aO.length:Int)) then
   au (idx v1.aO i1) fun e1=>
   au (wo e1) fun x6=>
   au (MN t1 x6) fun x7=>
   JK wo v1 bT (bZ (i1 + 1)) x7
  else
   if v1.kind == 5 then
    kP 6 t1
   else
    kP 5 t1

def QI (wo:ah→Option ak) (v1:ah):Option ak:=
 if v1.kind == 0 then
  kH 1
 else
  if v1.kind == 1 then
   kH 2
  else
   if v1.kind == 2 then
    kH 3
   else
    if v1.kind == 3 then
     kH 4
    else
     au (kH 7) fun x5=>
     JK wo v1 BIG 0 x5

def Bz :Nat→ah→Option ak
 | 0,_=>none
 | k + 1,qg=>QI (Bz k) qg

def aeB (qg:ah):Option ak:=Bz BIG qg

def MO (v1:ah):Option ak:=
 au (yO v1) fun x1=>
 if x1 != 0 then
  kH 0
 else
  aeB v1

def AB (e1:aj) (cB:List aH):Nat→Int→Option (ak × Int)
 | 0,_=>none
 | bT + 1,i1=>
  if decide (i1 < (cB.length:Int)) then
   au (idx cB i1) fun e2=>
   if e2.name == e1.name then
    au (idx cB i1) fun e3=>
    some (e3.rY,0)
   else
    AB e1 cB bT (bZ (i1 + 1))
  else
   some ((ak.mk 0 []),10)

def Br (e1:aj) (cB:List aH):Option (ak × Int):=
 if e1.kind == 1 then
  au (MO e1.value) fun x1=>
  some (x1,0)
 else
  AB e1 cB BIG 0

def iI (t1:ak):Option Bool:=
 some ((t1.kind == 0) || (t1.kind == 7))

def gL (fE:Int):Option ak:=
 kH fE

def oH (pX:ak→ak→Option Bool) (t1:ak) (u1:ak):Option Bool:=
 au (iI t1) fun x1=>
 if x1 || (u1.kind == 0) then
  some true
 else
  if t1.kind != u1.kind then
   some false
  else
   if (t1.elem.length:Int) == 0 then
    some true
   else
    au (idx t1.elem 0) fun e1=>
    au (idx u1.elem 0) fun e2=>
    pX e1 e2

def kG :Nat→ak→ak→Option Bool
 | 0,_,_=>none
 | k + 1,z_,Uf=>oH (kG k) z_ Uf

def fV (z_:ak) (Uf:ak):Option Bool:=kG BIG z_ Uf

def ig (t1:ak) (fE:Int):Option Bool:=
 au (gL fE) fun x1=>
 fV t1 x1

def JF (a1:ak) (b1:ak):Option (ak × Bool):=
 if a1.kind == 5 then
  au (idx a1.elem 0) fun e1=>
  au (ig b1 3) fun x1=>
  some (e1,x1)
 else
  if a1.kind == 6 then
   au (idx a1.elem 0) fun e2=>
   au (ig b1 4) fun x2=>
   some (e2,x2)
  else
   au (iI a1) fun x3=>
   au (
     if x3 then
      au (ig b1 3) fun x4=>
      if x4 then
       some true
      else
       ig b1 4
     else
      some false) fun b2=>
   some (a1,b2)

def C9 (fE:Int):Option ak:=
 au (gL 0) fun x1=>
 kP fE x1

def gY (name1:Str) (l1:List ak):Option (ak × Bool):=
 au (gL 4) fun x1=>
 if name1 == ([108,101,110]:Str) then
  au (gL 3) fun x2=>
  au (idx l1 0) fun e1=>
  au (ig e1 4) fun x3=>
  au (
    if x3 then
     some true
    else
     au (idx l1 0) fun e2=>
     au (C9 5) fun x4=>
     fV e2 x4) fun b1=>
  au (
    if b1 then
     some true
    else
     au (idx l1 0) fun e3=>
     au (C9 6) fun x6=>
     fV e3 x6) fun b2=>
  some (x2,b2)
 else
  if name1 == ([99,111,110,116,97,105,110,115]:Str) then
   au (gL 2) fun x8=>
   au (idx l1 0) fun e4=>
   au (C9 5) fun x9=>
   au (fV e4 x9) fun wS=>
   au (
     if wS then
      some true
     else
      au (idx l1 1) fun e5=>
      au (ig e5 4) fun H8=>
      if H8 then
       au (idx l1 0) fun e6=>
       au (ig e6 4) fun LQ=>
       if LQ then
        some true
       else
        au (idx l1 0) fun e7=>
        au (C9 6) fun Mg=>
        fV e7 Mg
      else
       some false) fun b3=>
   some (x8,b3)
  else
   if name1 == ([106,111,105,110]:Str) then
    au (idx l1 0) fun e8=>
    au (kP 5 x1) fun RO=>
    au (fV e8 RO) fun LP=>
    au (
      if LP then
       au (idx l1 1) fun e9=>
       ig e9 4
      else
       some false) fun b6=>
    some (x1,b6)
   else
    if name1 == ([115,112,108,105,116]:Str) then
     au (kP 5 x1) fun x18=>
     au (idx l1 0) fun e10=>
     au (ig e10 4) fun x19=>
     au (
       if x19 then
        au (idx l1 1) fun e11=>
        ig e11 4
       else
        some false) fun b7=>
     some (x18,b7)
    else
     if name1 == ([108,111,119,101,114]:Str) then
      au (idx l1 0) fun e12=>
      au (ig e12 4) fun x21=>
      some (x1,x21)
     else
      if name1 == ([117,112,112,101,114]:Str) then
       au (idx l1 0) fun e13=>
       au (ig e13 4) fun x22=>
       some (x1,x22)
      else
       if name1 == ([115,116,97,114,116,115,119,105,116,104]:Str) then
        au (gL 2) fun x23=>
        au (idx l1 0) fun e14=>
        au (ig e14 4) fun x24=>
        au (
          if x24 then
           au (idx l1 1) fun e15=>
           ig e15 4
          else
           some false) fun b8=>
        some (x23,b8)
       else
        if name1 == ([101,110,100,115,119,105,116,104]:Str) then
         au (gL 2) fun x26=>
         au (idx l1 0) fun e16=>
         au (ig e16 4) fun x27=>
         au (
           if x27 then
            au (idx l1 1) fun e17=>
            ig e17 4
           else
            some false) fun b9=>
         some (x26,b9)
        else
         if name1 == ([115,116,114,105,110,103]:Str) then
          au (idx l1 0) fun e18=>
          au (
            if e18.kind != 5 then
             au (idx l1 0) fun e19=>
             some (e19.kind != 6)
            else
             some false) fun b10=>
          some (x1,b10)
         else
          if name1 == ([105,110,116]:Str) then
           au (gL 3) fun x29=>
           au (idx l1 0) fun e20=>
           au (ig e20 4) fun x30=>
           some (x29,x30)
          else
           if name1 == ([107,101,121,115]:Str) then
            au (kP 5 x1) fun x31=>
            au (idx l1 0) fun e21=>
            au (C9 6) fun x32=>
            au (fV e21 x32) fun x33=>
            some (x31,x33)
           else
            au (idx l1 0) fun e22=>
            if e22.kind == 1 then
             au (idx l1 1) fun e23=>
             some (e23,true)
            else
             au (idx l1 0) fun e24=>
             some (e24,true)

def rD (a1:ak) (b1:ak):Option Int:=
 au (iI a1) fun x1=>
 if x1 then
  some b1.kind
 else
  au (iI b1) fun x2=>
  if x2 || (a1.kind == b1.kind) then
   some a1.kind
  else
   some (-1)

def AJ (t1:ak):Option ak:=
 au (iI t1) fun x1=>
 if x1 then
  some t1
 else
  idx t1.elem 0

def QJ (a1:ak) (b1:ak):Option Bool:=
 au (yL a1) fun x1=>
 if x1 == 0 then
  au (yL b1) fun x2=>
  some (x2 == 0)
 else
  some false

def BA (a1:ak) (b1:ak):Option ak:=
 au (QJ a1 b1) fun x1=>
 if !x1 then
  kH 0
 else
  MN a1 b1

def Ir (a1:ak) (b1:ak):Option (ak × Bool):=
 au (iI a1) fun x1=>
 au (
   if x1 then
    iI b1
   else
    some false) fun b2=>
 if b2 then
  if a1.kind == 0 then
   some (a1,true)
  else
   some (b1,true)
 else
  au (rD a1 b1) fun rV=>
  if rV == 5 then
   au (AJ a1) fun x3=>
   au (AJ b1) fun x4=>
   au (BA x3 x4) fun x5=>
   au (kP rV x5) fun x6=>
   some (x6,true)
  else
   au (gL rV) fun x7=>
   some (x7,((rV == 3) || (rV == 4)))

def nJ (op1:Str) (a1:ak) (b1:ak):Option (ak × Bool):=
 if op1 == ([38,38]:Str) then
  au (gL 2) fun x1=>
  au (ig a1 2) fun x2=>
  au (
    if x2 then
     ig b1 2
    else
     some false) fun b2=>
  some (x1,b2)
 else
  if op1 == ([124,124]:Str) then
   au (gL 2) fun x4=>
   au (ig a1 2) fun x5=>
   au (
     if x5 then
      ig b1 2
     else
      some false) fun b3=>
   some (x4,b3)
  else
   if op1 == ([61,61]:Str) then
    au (gL 2) fun x7=>
    some (x7,true)
   else
    if op1 == ([33,61]:Str) then
     au (gL 2) fun x8=>
     some (x8,true)
    else
     if op1 == ([60]:Str) then
      au (rD a1 b1) fun rV=>
      au (gL 2) fun x9=>
      au (iI a1) fun wS=>
      au (
        if wS then
         iI b1
        else
         some false) fun b4=>
      some (x9,((b4 || (rV == 3)) || (rV == 4)))
     else
      if op1 == ([60,61]:Str) then
       au (rD a1 b1) fun kx2=>
       au (gL 2) fun LQ=>
       au (iI a1) fun Mg=>
       au (
         if Mg then
          iI b1
         else
          some false) fun b5=>
       some (LQ,((b5 || (kx2 == 3)) || (kx2 == 4)))
      else
       if op1 == ([62]:Str) then
        au (rD a1 b1) fun kx3=>
        au (gL 2) fun RO=>
        au (iI a1) fun LP=>
        au (
          if LP then
           iI b1
          else
           some false) fun b6=>
        some (RO,((b6 || (kx3 == 3)) || (kx3 == 4)))
       else
        if op1 == ([62,61]:Str) then
         au (rD a1 b1) fun kx4=>
         au (gL 2) fun x18=>
         au (iI a1) fun x19=>
         au (
           if x19 then
            iI b1
           else
            some false) fun b7=>
         some (x18,((b7 || (kx4 == 3)) || (kx4 == 4)))
        else
         if op1 == ([43]:Str) then
          Ir a1 b1
         else
          au (gL 3) fun x23=>
          au (ig a1 3) fun x24=>
          au (
            if x24 then
             ig b1 3
            else
             some false) fun b8=>
          some (x23,b8)

def Ei (e1:aj) (l1:List ak):Nat→Int→ak→Option (ak × Bool)
 | 0,_,_=>none
 | bT + 1,i1,t1=>
  if decide (i1 < (l1.length:Int)) then
   au (idx l1 i1) fun e16=>
   au (BA t1 e16) fun RO=>
   Ei e1 l1 bT (bZ (i1 + 1)) RO
  else
   if e1.kind == 10 then
    au (kP 6 t1) fun LP=>
    some (LP,true)
   else
    au (kP 5 t1) fun XD=>
    some (XD,true)

def gN (e1:aj) (l1:List ak):Option (ak × Bool):=
 if e1.kind == 3 then
  au (idx l1 0) fun e2=>
  if e2.kind == 6 then
   au (idx l1 0) fun e3=>
   au (idx e3.elem 0) fun e4=>
   some (e4,true)
  else
   au (idx l1 0) fun e5=>
   au (idx l1 0) fun e6=>
   au (iI e6) fun x1=>
   some (e5,x1)
 else
  if e1.kind == 4 then
   au (idx l1 0) fun e7=>
   au (idx l1 1) fun e8=>
   JF e7 e8
  else
   if e1.kind == 5 then
    gY e1.name l1
   else
    if e1.kind == 6 then
     if e1.name == ([33]:Str) then
      au (gL 2) fun x6=>
      au (idx l1 0) fun e9=>
      au (ig e9 2) fun x7=>
      some (x6,x7)
     else
      au (gL 3) fun x8=>
      au (idx l1 0) fun e10=>
      au (ig e10 3) fun x9=>
      some (x8,x9)
    else
     if e1.kind == 7 then
      au (idx l1 0) fun e11=>
      au (idx l1 1) fun e12=>
      nJ e1.name e11 e12
     else
      if e1.kind == 8 then
       au (idx l1 1) fun e13=>
       au (idx l1 2) fun e14=>
       au (BA e13 e14) fun LQ=>
       au (idx l1 0) fun e15=>
       au (ig e15 2) fun Mg=>
       some (LQ,Mg)
      else
       au (gL 7) fun RP=>
       Ei e1 l1 BIG 0 RP

def sM (qP:aj→List aH→Option (ak × Int)) (e1:aj) (cB:List aH):Nat→List ak→Int→Option (ak × Int)
 | 0,_,_=>none
 | bT + 1,l1,i1=>
  if decide (i1 < (e1.args.length:Int)) then
   au (idx e1.args i1) fun e2=>
   fM (qP e2 cB) fun x5 f1=>
   if f1 != 0 then
    some ((ak.mk 0 []),f1)
   else
    au (app l1 [x5]) fun l2=>
    sM qP e1 cB bT l2 (bZ (i1 + 1))
  else
   fM (gN e1 l1) fun x6 ok1=>
   if !ok1 then
    some ((ak.mk 0 []),9)
   else
    au (yL x6) fun x7=>
    if x7 != 0 then
     some ((ak.mk 0 []),13)
    else
     some (x6,0)

def Ah (qP:aj→List aH→Option (ak × Int)) (e1:aj) (cB:List aH):Option (ak × Int):=
 if (e1.kind == 1) || (e1.kind == 2) then
  Br e1 cB
 else
  au (
    if e1.kind == 5 then
     au (rE e1.name) fun x3=>
     some (decide (x3 < 0))
    else
     some false) fun b1=>
  if b1 then
   some ((ak.mk 0 []),10)
  else
   au (
     if e1.kind == 5 then
      au (rE e1.name) fun x4=>
      some (x4 != (e1.args.length:Int))
     else
      some false) fun b2=>
   if b2 then
    some ((ak.mk 0 []),1)
   else
    sM qP e1 cB BIG [] 0

def jM :Nat→aj→List aH→Option (ak × Int)
 | 0,_,_=>none
 | k + 1,iY,eU=>Ah (jM k) iY eU

def pK (iY:aj) (eU:List aH):Option (ak × Int):=jM BIG iY eU

def Bt (e1:aj) (cB:List aH):Option (ak × Int):=
 au (QH cB) fun f1=>
 if f1 != 0 then
  some ((ak.mk 0 []),f1)
 else
  au (F6 e1) fun f2=>
  if f2 != 0 then
   some ((ak.mk 0 []),f2)
  else
   pK e1 cB
end Go.Ft
