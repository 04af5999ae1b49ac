/- Proved here: nothing: further functional texts, as our program wrote them. -/
import Derived.Test.YtggpjlegajicnaaGreatDoorCzFt1
set_option linter.unusedVariables false
set_option linter.unusedSimpArgs false
set_option linter.unusedSectionVars false
namespace Go.Ft
open Go
def J7 (s1:Str):Option ah:=
 some (ah.mk 3 false 0 s1 [] [])
def Gz (v1:ah) (key1:Str):Nat→Int→Option (ah × Bool)
 | 0,_=>none
 | bP + 1,i1=>
 if decide (i1 < (v1.keys.length:Int)) then
  au (idx v1.keys i1) fun e1=>
  if e1 == key1 then
  if decide ((v1.aI.length:Int)≤i1) then
   some ((ah.mk 0 false 0 ([]:Str) [] []),false)
  else
   au (idx v1.aI i1) fun e2=>
   some (e2,true)
  else
  Gz v1 key1 bP (bW (i1 + 1))
 else
  some ((ah.mk 0 false 0 ([]:Str) [] []),false)
def VK (v1:ah) (key1:Str):Option (ah × Bool):=
 if v1.kind != 5 then
 some ((ah.mk 0 false 0 ([]:Str) [] []),false)
 else
 Gz v1 key1 BIG 0
def Am (Jj:Int→Option Str) (n1:Int):Option Str:=
 if decide (n1 < 0) then
 if decide ((-10) < n1) then
  app ([45]:Str) ([(Ft.byteOf (bW (48 - n1)))]:List UInt8)
 else
  au (Jj (bW ((n1:Int).tdiv 10))) fun x2=>
  app x2 ([(Ft.byteOf (bW (48 - ((n1:Int).tmod 10))))]:List UInt8)
 else
 if decide (n1 < 10) then
  some ([(Ft.byteOf (bW (48 + n1)))]:List UInt8)
 else
  au (Jj (bW ((n1:Int).tdiv 10))) fun x4=>
  app x4 ([(Ft.byteOf (bW (48 + ((n1:Int).tmod 10))))]:List UInt8)
def mH :Nat→Int→Option Str
 | 0,_=>none
 | k + 1,Zq=>Am (mH k) Zq
def I4 (Zq:Int):Option Str:=mH BIG Zq
def Te (c1:UInt8):Option Str:=
 if (c1.toNat:Int) == 34 then
 some ([92,34]:List UInt8)
 else
 if (c1.toNat:Int) == 92 then
  some ([92,92]:List UInt8)
 else
  if (c1.toNat:Int) == 10 then
  some ([92,110]:List UInt8)
  else
  if (c1.toNat:Int) == 9 then
   some ([92,116]:List UInt8)
  else
   if (decide (32≤(c1.toNat:Int))) && (decide ((c1.toNat:Int)≤126)) then
   some ([c1]:List UInt8)
   else
   au (idx ([48,49,50,51,52,53,54,55,56,57,97,98,99,100,101,102]:Str) ((c1 / 16).toNat:Int)) fun x1=>
   au (idx ([48,49,50,51,52,53,54,55,56,57,97,98,99,100,101,102]:Str) ((c1 % 16).toNat:Int)) fun x2=>
   some ([92,120,x1,x2]:List UInt8)
def MJ (s1:Str):Nat→Str→Int→Option Str
 | 0,_,_=>none
 | bP + 1,bM,i1=>
 if decide (i1 < (s1.length:Int)) then
  au (idx s1 i1) fun x1=>
  au (Te x1) fun x2=>
  au (app bM x2) fun zW=>
  MJ s1 bP zW (bW (i1 + 1))
 else
  app bM ([34]:List UInt8)
def NS (s1:Str):Option Str:=
 MJ s1 BIG ([34]:List UInt8) 0
def ug (ko:ah→Option Str) (v1:ah):Nat→Str→Int→Option Str
 | 0,_,_=>none
 | bP + 1,s1,i1=>
 if decide (i1 < (v1.aI.length:Int)) then
  if decide (0 < i1) then
  au (app s1 ([44,32]:Str)) fun s2=>
  if v1.kind == 5 then
   au (idx v1.keys i1) fun e1=>
   au (NS e1) fun x3=>
   au (app s2 x3) fun x4=>
   au (app x4 ([58,32]:Str)) fun s3=>
   au (idx v1.aI i1) fun e2=>
   au (ko e2) fun x5=>
   au (app s3 x5) fun s4=>
   ug ko v1 bP s4 (bW (i1 + 1))
  else
   au (idx v1.aI i1) fun e3=>
   au (ko e3) fun x6=>
   au (app s2 x6) fun s5=>
   ug ko v1 bP s5 (bW (i1 + 1))
  else
  if v1.kind == 5 then
   au (idx v1.keys i1) fun e4=>
   au (NS e4) fun x7=>
   au (app s1 x7) fun x8=>
   au (app x8 ([58,32]:Str)) fun s6=>
   au (idx v1.aI i1) fun e5=>
   au (ko e5) fun x9=>
   au (app s6 x9) fun s7=>
   ug ko v1 bP s7 (bW (i1 + 1))
  else
   au (idx v1.aI i1) fun e6=>
   au (ko e6) fun BH=>
   au (app s1 BH) fun s8=>
   ug ko v1 bP s8 (bW (i1 + 1))
 else
  if v1.kind == 5 then
  au (app ([123]:Str) s1) fun Hl=>
  app Hl ([125]:Str)
  else
  au (app ([91]:Str) s1) fun KZ=>
  app KZ ([93]:Str)
def KD (ko:ah→Option Str) (v1:ah):Option Str:=
 if v1.kind == 0 then
 some ([110,117,108,108]:Str)
 else
 if v1.kind == 1 then
  if v1.dM then
  some ([116,114,117,101]:Str)
  else
  some ([102,97,108,115,101]:Str)
 else
  if v1.kind == 2 then
  I4 v1.dO
  else
  if v1.kind == 3 then
   NS v1.bO
  else
   ug ko v1 BIG ([]:Str) 0
def ET :Nat→ah→Option Str
 | 0,_=>none
 | k + 1,qH=>KD (ET k) qH
def OV (qH:ah):Option Str:=ET BIG qH
def XW (v1:ah):Option (Str × Int):=
 if (v1.kind == 4) || (v1.kind == 5) then
 some (([]:Str),9)
 else
 au (xH v1) fun e1=>
 if e1 != 0 then
  some (([]:Str),e1)
 else
  if v1.kind == 0 then
  some (([]:Str),0)
  else
  if v1.kind == 3 then
   some (v1.bO,0)
  else
   au (OV v1) fun x1=>
   some (x1,0)
def B_ (s1:Str) (RG:UInt8) (Yp:UInt8) (Fe:Int):Nat→List UInt8→Int→Option Str
 | 0,_,_=>none
 | bP + 1,b1,i1=>
 if decide (i1 < (s1.length:Int)) then
  au (idx s1 i1) fun c1=>
  if (decide ((RG.toNat:Int)≤(c1.toNat:Int))) && (decide ((c1.toNat:Int)≤(Yp.toNat:Int))) then
  au (app b1 ([(Ft.byteOf (bW ((c1.toNat:Int) + Fe)))]:List UInt8)) fun b2=>
  B_ s1 RG Yp Fe bP b2 (bW (i1 + 1))
  else
  au (app b1 ([c1]:List UInt8)) fun b3=>
  B_ s1 RG Yp Fe bP b3 (bW (i1 + 1))
 else
  some b1
def UH (s1:Str) (RG:UInt8) (Yp:UInt8) (Fe:Int):Option Str:=
 B_ s1 RG Yp Fe BIG [] 0
def Gx (s1:Str):Nat→Int→Int→Option (Int × Bool)
 | 0,_,_=>none
 | bP + 1,n1,i1=>
 if decide (i1 < (s1.length:Int)) then
  au (idx s1 i1) fun x2=>
  au (zS x2) fun x3=>
  if !x3 then
  some (0,false)
  else
  au (idx s1 i1) fun x4=>
  Gx s1 bP (bW ((bW ((bW (10 * n1)) + (x4.toNat:Int))) - 48)) (bW (i1 + 1))
 else
  some (n1,(decide (n1≤9007199254740992)))
def P8 (s1:Str):Option (Int × Bool):=
 au (
  if (s1 == ([]:Str)) || (decide (16 < (s1.length:Int))) then
  some true
  else
  if decide (1 < (s1.length:Int)) then
   au (idx s1 0) fun x1=>
   some ((x1.toNat:Int) == 48)
  else
   some false) fun b1=>
 if b1 then
 some (0,false)
 else
 Gx s1 BIG 0 0
def Gv (s1:Str):Option (Int × Bool):=
 au (
  if !(s1 == ([]:Str)) then
  au (idx s1 0) fun x1=>
  some ((x1.toNat:Int) == 45)
  else
  some false) fun b1=>
 if b1 then
 au (sl s1 1 (s1.length:Int)) fun x2=>
 fP (P8 x2) fun n1 ok1=>
 some ((bW (0 - n1)),(ok1 && (n1 != 0)))
 else
 P8 s1
def Ee (s1:Str) (t1:Str):Nat→Int→Option Int
 | 0,_=>none
 | bP + 1,i1=>
 if decide ((bW (i1 + (t1.length:Int)))≤(s1.length:Int)) then
  au (sl s1 i1 (bW (i1 + (t1.length:Int)))) fun x1=>
  if x1 == t1 then
  some i1
  else
  Ee s1 t1 bP (bW (i1 + 1))
 else
  some (-1)
def IV (s1:Str) (t1:Str) (abM:Int):Option Int:=
 Ee s1 t1 BIG abM
def wL (a1:ah) (b1:ah):Nat→Int→Option (ah × Int)
 | 0,_=>none
 | bP + 1,i1=>
 if decide (i1 < (a1.aI.length:Int)) then
  au (idx a1.aI i1) fun e1=>
  au (xI e1 b1) fun x1=>
  if x1 then
  au (nM true) fun x2=>
  some (x2,0)
  else
  wL a1 b1 bP (bW (i1 + 1))
 else
  au (nM false) fun x3=>
  some (x3,0)
def Mx (a1:ah) (b1:ah):Option (ah × Int):=
 if a1.kind == 4 then
 wL a1 b1 BIG 0
 else
 if (b1.kind != 3) || ((a1.kind != 3) && (a1.kind != 5)) then
  some ((ah.mk 0 false 0 ([]:Str) [] []),9)
 else
  if a1.kind == 5 then
  fP (VK a1 b1.bO) fun x4 ok1=>
  au (nM ok1) fun x5=>
  some (x5,0)
  else
  au (IV a1.bO b1.bO 0) fun x6=>
  au (nM (decide (0≤x6))) fun x7=>
  some (x7,0)
def EU (Aq:ah→Option Int) (v1:ah):Nat→Int→Int→Option Int
 | 0,_,_=>none
 | bP + 1,n1,i1=>
 if decide (i1 < (v1.aI.length:Int)) then
  au (idx v1.aI i1) fun e1=>
  au (Aq e1) fun x1=>
  EU Aq v1 bP (if n1 < (bW (1 + x1)) then (bW (1 + x1)) else n1) (bW (i1 + 1))
 else
  some n1
def MK (Aq:ah→Option Int) (v1:ah):Option Int:=
 if (v1.kind != 4) && (v1.kind != 5) then
 some 1
 else
 EU Aq v1 BIG 2 0
def vk :Nat→ah→Option Int
 | 0,_=>none
 | k + 1,qH=>MK (vk k) qH
def La (qH:ah):Option Int:=vk BIG qH
def zN (v1:ah):Option (ah × Int):=
 if (decide (v1.dO < (-9007199254740992))) || (decide (9007199254740992 < v1.dO)) then
 some ((ah.mk 0 false 0 ([]:Str) [] []),11)
 else
 if (decide (4096 < (v1.bO.length:Int))) || (decide (1024 < (v1.aI.length:Int))) then
  some ((ah.mk 0 false 0 ([]:Str) [] []),3)
 else
  au (La v1) fun x1=>
  if decide (16 < x1) then
  some ((ah.mk 0 false 0 ([]:Str) [] []),13)
  else
  some (v1,0)
def xE (a1:ah) (b1:ah):Nat→Str→Int→Option (ah × Int)
 | 0,_,_=>none
 | bP + 1,s1,i1=>
 if decide (i1 < (a1.aI.length:Int)) then
  au (idx a1.aI i1) fun e1=>
  if e1.kind != 3 then
  some ((ah.mk 0 false 0 ([]:Str) [] []),9)
  else
  if decide (0 < i1) then
   au (app s1 b1.bO) fun s2=>
   au (idx a1.aI i1) fun e2=>
   au (app s2 e2.bO) fun s3=>
   xE a1 b1 bP s3 (bW (i1 + 1))
  else
   au (idx a1.aI i1) fun e3=>
   au (app s1 e3.bO) fun s4=>
   xE a1 b1 bP s4 (bW (i1 + 1))
 else
  au (J7 s1) fun x1=>
  zN x1
def XV (a1:ah) (b1:ah):Option (ah × Int):=
 if (a1.kind != 4) || (b1.kind != 3) then
 some ((ah.mk 0 false 0 ([]:Str) [] []),9)
 else
 xE a1 b1 BIG ([]:Str) 0
def BZ (s1:Str) (Fe:Str):Nat→List ah→Int→Int→Option (ah × Int)
 | 0,_,_,_=>none
 | bP + 1,l1,abM,at2=>
 if decide (0≤at2) then
  au (sl s1 abM at2) fun x1=>
  au (J7 x1) fun x2=>
  au (app l1 [x2]) fun l2=>
  au (IV s1 Fe (bW (at2 + (Fe.length:Int)))) fun at3=>
  BZ s1 Fe bP l2 (bW (at2 + (Fe.length:Int))) at3
 else
  au (sl s1 abM (s1.length:Int)) fun x3=>
  au (J7 x3) fun x4=>
  au (app l1 [x4]) fun x5=>
  zN (ah.mk 4 false 0 ([]:Str) x5 [])
def J6 (s1:Str) (Fe:Str):Option (ah × Int):=
 if Fe == ([]:Str) then
 some ((ah.mk 0 false 0 ([]:Str) [] []),1)
 else
 au (IV s1 Fe 0) fun nL=>
 BZ s1 Fe BIG [] 0 nL
end Go.Ft
