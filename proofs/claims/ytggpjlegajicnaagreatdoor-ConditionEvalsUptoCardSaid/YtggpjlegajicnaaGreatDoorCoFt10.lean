/- Proved here: nothing: the functional texts of the functions that the statements reach, as our program wrote them. -/
import Derived.Test.YtggpjlegajicnaaGreatDoorCoFt1
import Derived.Test.YtggpjlegajicnaaGreatDoorCoFt2
import Derived.Test.YtggpjlegajicnaaGreatDoorCoFt3
import Derived.Test.YtggpjlegajicnaaGreatDoorCoFt4
import Derived.Test.YtggpjlegajicnaaGreatDoorCoFt5
import Derived.Test.YtggpjlegajicnaaGreatDoorCoFt6
set_option linter.unusedVariables false
set_option linter.unusedSimpArgs false
set_option linter.unusedSectionVars false
namespace Go.Ft
open Go
def F4 (a1:ah) (b1:ah):Option (ah × Int):=
 if (a1.kind == 4) && (b1.kind == 2) then
  if (decide (b1.dI < 0)) || (decide ((a1.aO.length:Int)≤b1.dI)) then
   some ((ah.mk 0 false 0 ([]:Str) [] []),8)
  else
   au (idx a1.aO b1.dI) fun e1=>
   some (e1,0)
 else
  if (a1.kind != 5) || (b1.kind != 3) then
   some ((ah.mk 0 false 0 ([]:Str) [] []),9)
  else
   fM (Kv a1 b1.bR) fun x1 ok1=>
   if !ok1 then
    some ((ah.mk 0 false 0 ([]:Str) [] []),8)
   else
    some (x1,0)

def CZ (a1:ah):Nat→Int→ah→Option (ah × Int)
 | 0,_,_=>none
 | bT + 1,i1,v1=>
  if decide (i1 < (a1.keys.length:Int)) then
   au (idx a1.keys i1) fun e1=>
   au (qE e1) fun x1=>
   au (app v1.aO [x1]) fun x2=>
   CZ a1 bT (bZ (i1 + 1)) (ah.mk v1.kind v1.dO v1.dI v1.bR x2 v1.keys)
  else
   some (v1,0)

def QF (name1:Str) (a1:ah):Option (ah × Int):=
 if (name1 == ([108,101,110]:Str)) && (decide (3≤a1.kind)) then
  some ((ah.mk 2 false (bZ ((a1.bR.length:Int) + (a1.aO.length:Int))) ([]:Str) [] []),0)
 else
  if (name1 == ([107,101,121,115]:Str)) && (a1.kind == 5) then
   CZ a1 BIG 0 (ah.mk 4 false 0 ([]:Str) [] [])
  else
   if name1 == ([115,116,114,105,110,103]:Str) then
    fM (MR a1) fun s2 e2=>
    if e2 != 0 then
     some ((ah.mk 0 false 0 ([]:Str) [] []),e2)
    else
     au (qE s2) fun x3=>
     some (x3,0)
   else
    if ((a1.kind != 3) || (name1 == ([108,101,110]:Str))) || (name1 == ([107,101,121,115]:Str)) then
     some ((ah.mk 0 false 0 ([]:Str) [] []),9)
    else
     if name1 == ([108,111,119,101,114]:Str) then
      au (F5 a1.bR 65 90 32) fun x4=>
      au (qE x4) fun x5=>
      some (x5,0)
     else
      if name1 == ([117,112,112,101,114]:Str) then
       au (F5 a1.bR 97 122 (-32)) fun x6=>
       au (qE x6) fun x7=>
       some (x7,0)
      else
       fM (Ag a1.bR) fun n1 ok1=>
       if !ok1 then
        some ((ah.mk 0 false 0 ([]:Str) [] []),1)
       else
        some ((ah.mk 2 false n1 ([]:Str) [] []),0)

def QE (name1:Str) (a1:ah) (b1:ah):Option (ah × Int):=
 if name1 == ([99,111,110,116,97,105,110,115]:Str) then
  Bq a1 b1
 else
  if name1 == ([106,111,105,110]:Str) then
   MH a1 b1
  else
   if name1 == ([100,101,102,97,117,108,116]:Str) then
    if a1.kind == 0 then
     some (b1,0)
    else
     some (a1,0)
   else
    if (a1.kind != 3) || (b1.kind != 3) then
     some ((ah.mk 0 false 0 ([]:Str) [] []),9)
    else
     if name1 == ([115,112,108,105,116]:Str) then
      CY a1.bR b1.bR
     else
      if name1 == ([115,116,97,114,116,115,119,105,116,104]:Str) then
       au (
         if decide ((b1.bR.length:Int)≤(a1.bR.length:Int)) then
          au (sl a1.bR 0 (b1.bR.length:Int)) fun x7=>
          some (x7 == b1.bR)
         else
          some false) fun b2=>
       au (jf b2) fun x8=>
       some (x8,0)
      else
       au (
         if decide ((b1.bR.length:Int)≤(a1.bR.length:Int)) then
          au (sl a1.bR (bZ ((a1.bR.length:Int) - (b1.bR.length:Int))) (a1.bR.length:Int)) fun x9=>
          some (x9 == b1.bR)
         else
          some false) fun b3=>
       au (jf b3) fun wS=>
       some (wS,0)

def xg (op1:Str) (OP:Bool) (acT:Bool):Option (ah × Int):=
 if op1 == ([60]:Str) then
  au (jf OP) fun x1=>
  some (x1,0)
 else
  if op1 == ([60,61]:Str) then
   au (jf (!acT)) fun x2=>
   some (x2,0)
  else
   if op1 == ([62]:Str) then
    au (jf acT) fun x3=>
    some (x3,0)
   else
    au (jf (!OP)) fun x4=>
    some (x4,0)

def Em (n1:Int):Option (BitVec 64):=
 if decide (n1 < 0) then
  some ((BitVec.ofInt 64 (bZ (0 - (bZ (n1 + 1))))) + (1:BitVec 64))
 else
  some (BitVec.ofInt 64 n1)

def Eo (a1:Int) (b1:Int):Option d9:=
 au (Em a1) fun x1=>
 au (Em b1) fun y1=>
 au (some ((x1 % (4294967296:BitVec 64)) * (y1 % (4294967296:BitVec 64)))) fun ET=>
 au (some ((x1 / (4294967296:BitVec 64)) * (y1 % (4294967296:BitVec 64)))) fun x2=>
 au (some ((x1 % (4294967296:BitVec 64)) * (y1 / (4294967296:BitVec 64)))) fun x3=>
 au (some ((x2 + (ET / (4294967296:BitVec 64))) % (4294967296:BitVec 64))) fun x4=>
 au (some ((x1 / (4294967296:BitVec 64)) * (y1 / (4294967296:BitVec 64)))) fun x5=>
 au (some ((x2 + (ET / (4294967296:BitVec 64))) / (4294967296:BitVec 64))) fun x6=>
 au (some ((x5 + x6) + ((x3 + x4) / (4294967296:BitVec 64)))) fun x7=>
 au (some (((x3 + x4) % (4294967296:BitVec 64)) * (4294967296:BitVec 64))) fun x8=>
 some (d9.mk ((!((decide (a1 < 0)) == (decide (b1 < 0)))) && (((x7.toNat:Int) != 0) || (((x8 + (ET % (4294967296:BitVec 64))).toNat:Int) != 0))) x7 (x8 + (ET % (4294967296:BitVec 64))))

def Kw (w1:d9):Option (Int × Bool):=
 if (((w1.hi.toNat:Int) != 0) || (decide (9223372036854775808 < (w1.lo.toNat:Int)))) || (((w1.lo.toNat:Int) == 9223372036854775808) && (!w1.neg)) then
  some (0,false)
 else
  if (w1.lo.toNat:Int) == 9223372036854775808 then
   some ((-9223372036854775808),true)
  else
   if w1.neg then
    some ((bZ (0 - (bZ (w1.lo.toNat:Int)))),true)
   else
    some ((bZ (w1.lo.toNat:Int)),true)

def QL (a1:Int) (b1:Int):Option Int:=
 au (Eo a1 b1) fun x1=>
 fM (Kw x1) fun n1 ok1=>
 if ok1 then
  some n1
 else
  if x1.neg then
   some (-9223372036854775808)
  else
   some 9223372036854775807

def MI (op1:Str) (a1:Int) (b1:Int):Option (ah × Int):=
 if op1 == ([43]:Str) then
  lD (ah.mk 2 false (bZ (a1 + b1)) ([]:Str) [] [])
 else
  if op1 == ([45]:Str) then
   lD (ah.mk 2 false (bZ (a1 - b1)) ([]:Str) [] [])
  else
   if op1 == ([42]:Str) then
    au (QL a1 b1) fun n1=>
    lD (ah.mk 2 false n1 ([]:Str) [] [])
   else
    if b1 == 0 then
     some ((ah.mk 0 false 0 ([]:Str) [] []),12)
    else
     au (chk (!(b1 == 0))) fun _=>
     if op1 == ([37]:Str) then
      au (chk (!(b1 == 0))) fun _=>
      lD (ah.mk 2 false ((a1:Int).tmod b1) ([]:Str) [] [])
     else
      lD (ah.mk 2 false (bZ ((a1:Int).tdiv b1)) ([]:Str) [] [])

def qh (op1:Str) (a1:ah) (b1:ah):Option (ah × Int):=
 if (op1 == ([61,61]:Str)) || (op1 == ([33,61]:Str)) then
  au (yP a1 b1) fun x1=>
  au (jf (x1 == (op1 == ([61,61]:Str)))) fun x2=>
  some (x2,0)
 else
  if a1.kind != b1.kind then
   some ((ah.mk 0 false 0 ([]:Str) [] []),9)
  else
   au (Bv op1) fun x3=>
   if (a1.kind == 2) && (x3 == 4) then
    xg op1 (decide (a1.dI < b1.dI)) (decide (b1.dI < a1.dI))
   else
    if a1.kind == 2 then
     MI op1 a1.dI b1.dI
    else
     if (a1.kind == 3) && (x3 == 4) then
      xg op1 (Go.Op.bytesLess a1.bR b1.bR) (!(Go.Op.bytesLess a1.bR b1.bR || a1.bR == b1.bR))
     else
      if (a1.kind == 3) && (op1 == ([43]:Str)) then
       au (app a1.bR b1.bR) fun wS=>
       au (qE wS) fun H8=>
       lD H8
      else
       if (a1.kind == 4) && (op1 == ([43]:Str)) then
        au (app [] a1.aO) fun l1=>
        au (app l1 b1.aO) fun RP=>
        lD (ah.mk 4 false 0 ([]:Str) RP [])
       else
        some ((ah.mk 0 false 0 ([]:Str) [] []),9)

def xA (v1:ah) (x1:aA):Nat→Bool→Int→ah→Option ah
 | 0,_,_,_=>none
 | bT + 1,OW,i1,bH=>
  if decide (i1 < (v1.keys.length:Int)) then
   au (
     if !OW then
      au (idx v1.keys i1) fun e1=>
      au (qN x1.name e1) fun x2=>
      some (decide (x2 < 0))
     else
      some false) fun b1=>
   if b1 then
    au (app bH.keys ([x1.name]:List Str)) fun x3=>
    au (app bH.aO [x1.value]) fun x4=>
    au (idx v1.keys i1) fun e2=>
    au (app x3 ([e2]:List Str)) fun x5=>
    au (idx v1.aO i1) fun e3=>
    au (app x4 [e3]) fun x6=>
    xA v1 x1 bT true (bZ (i1 + 1)) (ah.mk bH.kind bH.dO bH.dI bH.bR x6 x5)
   else
    au (idx v1.keys i1) fun e4=>
    au (app bH.keys ([e4]:List Str)) fun x7=>
    au (idx v1.aO i1) fun e5=>
    au (app bH.aO [e5]) fun x8=>
    xA v1 x1 bT OW (bZ (i1 + 1)) (ah.mk bH.kind bH.dO bH.dI bH.bR x8 x7)
  else
   if !OW then
    au (app bH.keys ([x1.name]:List Str)) fun x9=>
    au (app bH.aO [x1.value]) fun wS=>
    some (ah.mk bH.kind bH.dO bH.dI bH.bR wS x9)
   else
    some bH

def MP (v1:ah) (x1:aA):Option ah:=
 xA v1 x1 BIG false 0 (ah.mk 5 false 0 ([]:Str) [] [])

def Dg (bG:List aA):Nat→Int→ah→Option (ah × Int)
 | 0,_,_=>none
 | bT + 1,i1,v1=>
  if decide (i1 < (bG.length:Int)) then
   au (idx bG i1) fun e1=>
   au (Ob e1.name) fun x1=>
   if !x1 then
    some ((ah.mk 0 false 0 ([]:Str) [] []),1)
   else
    au (idx bG i1) fun e2=>
    au (yO e2.value) fun e3=>
    if e3 != 0 then
     some ((ah.mk 0 false 0 ([]:Str) [] []),e3)
    else
     au (idx bG i1) fun e4=>
     au (Gz e4.value) fun x2=>
     if x2 == 16 then
      some ((ah.mk 0 false 0 ([]:Str) [] []),13)
     else
      au (idx bG i1) fun e5=>
      fM (Kv v1 e5.name) fun x3 ok1=>
      if ok1 then
       some ((ah.mk 0 false 0 ([]:Str) [] []),7)
      else
       au (idx bG i1) fun e6=>
       au (MP v1 e6) fun x4=>
       Dg bG bT (bZ (i1 + 1)) x4
  else
   some (v1,0)

def Oc (bG:List aA):Option (ah × Int):=
 if decide (1024 < (bG.length:Int)) then
  some ((ah.mk 0 false 0 ([]:Str) [] []),3)
 else
  Dg bG BIG 0 (ah.mk 5 false 0 ([]:Str) [] [])

def Ay (e1:aj) (l1:List ah):Nat→List aA→Int→Option (ah × Int)
 | 0,_,_=>none
 | bT + 1,bG,i1=>
  if decide (i1 < (l1.length:Int)) then
   au (idx e1.keys i1) fun e14=>
   au (idx l1 i1) fun e15=>
   au (app bG [(aA.mk e14 e15)]) fun Gl=>
   Ay e1 l1 bT Gl (bZ (i1 + 1))
  else
   Oc bG

def JE (e1:aj) (l1:List ah):Option (ah × Int):=
 if e1.kind == 3 then
  au (idx l1 0) fun e2=>
  au (qE e1.name) fun x1=>
  F4 e2 x1
 else
  if e1.kind == 4 then
   au (idx l1 0) fun e3=>
   au (idx l1 1) fun e4=>
   F4 e3 e4
  else
   if e1.kind == 5 then
    if (l1.length:Int) == 1 then
     au (idx l1 0) fun e5=>
     QF e1.name e5
    else
     au (idx l1 0) fun e6=>
     au (idx l1 1) fun e7=>
     QE e1.name e6 e7
   else
    if e1.kind == 6 then
     au (
       if e1.name == ([33]:Str) then
        au (idx l1 0) fun e8=>
        some (e8.kind == 1)
       else
        some false) fun b1=>
     if b1 then
      au (idx l1 0) fun e9=>
      au (jf (!e9.dO)) fun wS=>
      some (wS,0)
     else
      au (
        if e1.name == ([45]:Str) then
         au (idx l1 0) fun e10=>
         some (e10.kind == 2)
        else
         some false) fun b2=>
      if b2 then
       au (idx l1 0) fun e11=>
       some ((ah.mk 2 false (bZ (0 - e11.dI)) ([]:Str) [] []),0)
      else
       some ((ah.mk 0 false 0 ([]:Str) [] []),9)
    else
     if e1.kind == 7 then
      au (idx l1 0) fun e12=>
      au (idx l1 1) fun e13=>
      qh e1.name e12 e13
     else
      if e1.kind == 9 then
       lD (ah.mk 4 false 0 ([]:Str) l1 [])
      else
       Ay e1 l1 BIG [] 0

def AA (e1:aj) (cB:List aA):Nat→Int→Option (ah × Int)
 | 0,_=>none
 | bT + 1,i1=>
  if decide (i1 < (cB.length:Int)) then
   au (idx cB i1) fun e2=>
   if e2.name == e1.name then
    au (idx cB i1) fun e3=>
    some (e3.value,0)
   else
    AA e1 cB bT (bZ (i1 + 1))
  else
   some ((ah.mk 0 false 0 ([]:Str) [] []),10)

def Ef (gV:aj→List aA→Option (ah × Int)) (e1:aj) (cB:List aA):Nat→List ah→Int→Option (ah × Int)
 | 0,_,_=>none
 | KQ + 1,l1,i2=>
  if decide (i2 < (e1.args.length:Int)) then
   au (idx e1.args i2) fun e4=>
   fM (gV e4 cB) fun x7 f1=>
   if f1 != 0 then
    some ((ah.mk 0 false 0 ([]:Str) [] []),f1)
   else
    au (app l1 [x7]) fun l2=>
    Ef gV e1 cB KQ l2 (bZ (i2 + 1))
  else
   JE e1 l1

def Eh (gV:aj→List aA→Option (ah × Int)) (e1:aj) (cB:List aA):Option (ah × Int):=
 Ef gV e1 cB BIG [] 0

def Kt (gV:aj→List aA→Option (ah × Int)) (jE:aj→List aA→Option (ah × Int)) (jg:aj→List aA→Option (ah × Int)) (e1:aj) (cB:List aA):Option (ah × Int):=
 if e1.kind == 1 then
  some (e1.value,0)
 else
  if e1.kind == 2 then
   AA e1 cB BIG 0
  else
   if e1.kind == 8 then
    jE e1 cB
   else
    if (e1.kind == 7) && ((e1.name == ([38,38]:Str)) || (e1.name == ([124,124]:Str))) then
     jE e1 cB
    else
     au (
       if e1.kind == 5 then
        au (rE e1.name) fun x5=>
        some (decide (x5 < 0))
       else
        some false) fun b1=>
     if b1 then
      some ((ah.mk 0 false 0 ([]:Str) [] []),10)
     else
      au (
        if e1.kind == 5 then
         au (rE e1.name) fun x6=>
         some (x6 != (e1.args.length:Int))
        else
         some false) fun b2=>
      if b2 then
       some ((ah.mk 0 false 0 ([]:Str) [] []),1)
      else
       Eh gV e1 cB

def yI (gV:aj→List aA→Option (ah × Int)) (jE:aj→List aA→Option (ah × Int)) (jg:aj→List aA→Option (ah × Int)) (e1:aj) (cB:List aA):Option (ah × Int):=
 au (idx e1.args 0) fun e2=>
 fM (jg e2 cB) fun x1 f1=>
 if f1 != 0 then
  some ((ah.mk 0 false 0 ([]:Str) [] []),f1)
 else
  if e1.kind == 8 then
   if x1.dO then
    au (idx e1.args 1) fun e3=>
    gV e3 cB
   else
    au (idx e1.args 2) fun e4=>
    gV e4 cB
  else
   if x1.dO == (e1.name == ([124,124]:Str)) then
    some (x1,0)
   else
    au (idx e1.args 1) fun e5=>
    jg e5 cB

def zL (gV:aj→List aA→Option (ah × Int)) (jE:aj→List aA→Option (ah × Int)) (jg:aj→List aA→Option (ah × Int)) (e1:aj) (cB:List aA):Option (ah × Int):=
 fM (gV e1 cB) fun x1 f1=>
 if (f1 == 0) && (x1.kind != 1) then
  some ((ah.mk 0 false 0 ([]:Str) [] []),9)
 else
  some (x1,f1)

mutual
def lF :Nat→aj→List aA→Option (ah × Int)
 | 0,_,_=>none
 | k + 1,iY,eU=>Kt (lF k) (nI k) (mJ k) iY eU
def nI :Nat→aj→List aA→Option (ah × Int)
 | 0,_,_=>none
 | k + 1,iY,eU=>yI (lF k) (nI k) (mJ k) iY eU
def mJ :Nat→aj→List aA→Option (ah × Int)
 | 0,_,_=>none
 | k + 1,iY,eU=>zL (lF k) (nI k) (mJ k) iY eU
end

def acw (iY:aj) (eU:List aA):Option (ah × Int):=lF BIG iY eU

def aeA (iY:aj) (eU:List aA):Option (ah × Int):=nI BIG iY eU

def acy (iY:aj) (eU:List aA):Option (ah × Int):=mJ BIG iY eU

def MJ (e1:aj) (cB:List aA):Option (ah × Int):=
 au (N_ cB) fun f1=>
 if f1 != 0 then
  some ((ah.mk 0 false 0 ([]:Str) [] []),f1)
 else
  au (F6 e1) fun f2=>
  if f2 != 0 then
   some ((ah.mk 0 false 0 ([]:Str) [] []),f2)
  else
   acw e1 cB

def MF (fD:aj) (bC:List Int) (bG:List aA):Option (Bool × Int):=
 au (Kr bC bG) fun x1=>
 fM (MJ fD x1) fun x2 e1=>
 if e1 != 0 then
  some (false,e1)
 else
  if x2.kind != 1 then
   some (false,9)
  else
   some (x2.dO,0)

def vH (fD:aj) (bC:List Int) (bG:List aA):Option Bool:=
 au (yX fD (bZ ((bC.length:Int) + (bG.length:Int)))) fun x1=>
 if !x1 then
  lZ
 else
  fM (jO fD bC bG) fun b1 e1=>
  fM (MF fD bC bG) fun c1 f1=>
  if (b1 == c1) && (e1 == f1) then
   lZ
  else
   some false
end Go.Ft
