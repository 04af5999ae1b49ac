/- Proved here: nothing: further functional texts, as our program wrote them. -/
import Derived.Test.YtggpjlegajicnaaGreatDoorCzFt1
set_option linter.unusedVariables false
set_option linter.unusedSimpArgs false
set_option linter.unusedSectionVars false
namespace Go.Ft
open Go
def qE (s1:Str):Option ah:=
 some (ah.mk 3 false 0 s1 [] [])

def Dh (v1:ah) (key1:Str):Nat→Int→Option (ah × Bool)
 | 0,_=>none
 | bT + 1,i1=>
 if decide (i1 < (v1.keys.length:Int)) then
  au (idx v1.keys i1) fun e1=>
  if e1 == key1 then
  if decide ((v1.aO.length:Int)≤i1) then
   some ((ah.mk 0 false 0 ([]:Str) [] []),false)
  else
   au (idx v1.aO i1) fun e2=>
   some (e2,true)
  else
  Dh v1 key1 bT (bZ (i1 + 1))
 else
  some ((ah.mk 0 false 0 ([]:Str) [] []),false)

def Kv (v1:ah) (key1:Str):Option (ah × Bool):=
 if v1.kind != 5 then
 some ((ah.mk 0 false 0 ([]:Str) [] []),false)
 else
 Dh v1 key1 BIG 0

def wm (rJ:Int→Option Str) (n1:Int):Option Str:=
 if decide (n1 < 0) then
 if decide ((-10) < n1) then
  app ([45]:Str) ([(Ft.byteOf (bZ (48 - n1)))]:List UInt8)
 else
  au (rJ (bZ ((n1:Int).tdiv 10))) fun x2=>
  app x2 ([(Ft.byteOf (bZ (48 - ((n1:Int).tmod 10))))]:List UInt8)
 else
 if decide (n1 < 10) then
  some ([(Ft.byteOf (bZ (48 + n1)))]:List UInt8)
 else
  au (rJ (bZ ((n1:Int).tdiv 10))) fun x4=>
  app x4 ([(Ft.byteOf (bZ (48 + ((n1:Int).tmod 10))))]:List UInt8)

def lM :Nat→Int→Option Str
 | 0,_=>none
 | k + 1,Ug=>wm (lM k) Ug

def IC (Ug:Int):Option Str:=lM BIG Ug

def Jf (c1:UInt8):Option Str:=
 if (c1.toNat:Int) == 34 then
 some ([92,34]:List UInt8)
 else
 if (c1.toNat:Int) == 92 then
  some ([92,92]:List UInt8)
 else
  if (c1.toNat:Int) == 10 then
  some ([92,110]:List UInt8)
  else
  if (c1.toNat:Int) == 9 then
   some ([92,116]:List UInt8)
  else
   if (decide (32≤(c1.toNat:Int))) && (decide ((c1.toNat:Int)≤126)) then
   some ([c1]:List UInt8)
   else
   au (idx ([48,49,50,51,52,53,54,55,56,57,97,98,99,100,101,102]:Str) ((c1 / 16).toNat:Int)) fun x1=>
   au (idx ([48,49,50,51,52,53,54,55,56,57,97,98,99,100,101,102]:Str) ((c1 % 16).toNat:Int)) fun x2=>
   some ([92,120,x1,x2]:List UInt8)

def Fj (s1:Str):Nat→Str→Int→Option Str
 | 0,_,_=>none
 | bT + 1,bH,i1=>
 if decide (i1 < (s1.length:Int)) then
  au (idx s1 i1) fun x1=>
  au (Jf x1) fun x2=>
  au (app bH x2) fun yS=>
  Fj s1 bT yS (bZ (i1 + 1))
 else
  app bH ([34]:List UInt8)

def JN (s1:Str):Option Str:=
 Fj s1 BIG ([34]:List UInt8) 0

def rF (iH:ah→Option Str) (v1:ah):Nat→Str→Int→Option Str
 | 0,_,_=>none
 | bT + 1,s1,i1=>
 if decide (i1 < (v1.aO.length:Int)) then
  if decide (0 < i1) then
  au (app s1 ([44,32]:Str)) fun s2=>
  if v1.kind == 5 then
   au (idx v1.keys i1) fun e1=>
   au (JN e1) fun x3=>
   au (app s2 x3) fun x4=>
   au (app x4 ([58,32]:Str)) fun s3=>
   au (idx v1.aO i1) fun e2=>
   au (iH e2) fun x5=>
   au (app s3 x5) fun s4=>
   rF iH v1 bT s4 (bZ (i1 + 1))
  else
   au (idx v1.aO i1) fun e3=>
   au (iH e3) fun x6=>
   au (app s2 x6) fun s5=>
   rF iH v1 bT s5 (bZ (i1 + 1))
  else
  if v1.kind == 5 then
   au (idx v1.keys i1) fun e4=>
   au (JN e4) fun x7=>
   au (app s1 x7) fun x8=>
   au (app x8 ([58,32]:Str)) fun s6=>
   au (idx v1.aO i1) fun e5=>
   au (iH e5) fun x9=>
   au (app s6 x9) fun s7=>
   rF iH v1 bT s7 (bZ (i1 + 1))
  else
   au (idx v1.aO i1) fun e6=>
   au (iH e6) fun wS=>
   au (app s1 wS) fun s8=>
   rF iH v1 bT s8 (bZ (i1 + 1))
 else
  if v1.kind == 5 then
  au (app ([123]:Str) s1) fun H8=>
  app H8 ([125]:Str)
  else
  au (app ([91]:Str) s1) fun Mg=>
  app Mg ([93]:Str)

def DK (iH:ah→Option Str) (v1:ah):Option Str:=
 if v1.kind == 0 then
 some ([110,117,108,108]:Str)
 else
 if v1.kind == 1 then
  if v1.dO then
  some ([116,114,117,101]:Str)
  else
  some ([102,97,108,115,101]:Str)
 else
  if v1.kind == 2 then
  IC v1.dI
  else
  if v1.kind == 3 then
   JN v1.bR
  else
   rF iH v1 BIG ([]:Str) 0

def wh :Nat→ah→Option Str
 | 0,_=>none
 | k + 1,qg=>DK (wh k) qg

def MQ (qg:ah):Option Str:=wh BIG qg

def MR (v1:ah):Option (Str × Int):=
 if (v1.kind == 4) || (v1.kind == 5) then
 some (([]:Str),9)
 else
 au (yO v1) fun e1=>
 if e1 != 0 then
  some (([]:Str),e1)
 else
  if v1.kind == 0 then
  some (([]:Str),0)
  else
  if v1.kind == 3 then
   some (v1.bR,0)
  else
   au (MQ v1) fun x1=>
   some (x1,0)

def yH (s1:Str) (Jj:UInt8) (M_:UInt8) (Cw:Int):Nat→List UInt8→Int→Option Str
 | 0,_,_=>none
 | bT + 1,b1,i1=>
 if decide (i1 < (s1.length:Int)) then
  au (idx s1 i1) fun c1=>
  if (decide ((Jj.toNat:Int)≤(c1.toNat:Int))) && (decide ((c1.toNat:Int)≤(M_.toNat:Int))) then
  au (app b1 ([(Ft.byteOf (bZ ((c1.toNat:Int) + Cw)))]:List UInt8)) fun b2=>
  yH s1 Jj M_ Cw bT b2 (bZ (i1 + 1))
  else
  au (app b1 ([c1]:List UInt8)) fun b3=>
  yH s1 Jj M_ Cw bT b3 (bZ (i1 + 1))
 else
  some b1

def F5 (s1:Str) (Jj:UInt8) (M_:UInt8) (Cw:Int):Option Str:=
 yH s1 Jj M_ Cw BIG [] 0

def Dc (s1:Str):Nat→Int→Int→Option (Int × Bool)
 | 0,_,_=>none
 | bT + 1,n1,i1=>
 if decide (i1 < (s1.length:Int)) then
  au (idx s1 i1) fun x2=>
  au (Db x2) fun x3=>
  if !x3 then
  some (0,false)
  else
  au (idx s1 i1) fun x4=>
  Dc s1 bT (bZ ((bZ ((bZ (10 * n1)) + (x4.toNat:Int))) - 48)) (bZ (i1 + 1))
 else
  some (n1,(decide (n1≤9007199254740992)))

def Oa (s1:Str):Option (Int × Bool):=
 au (
  if (s1 == ([]:Str)) || (decide (16 < (s1.length:Int))) then
  some true
  else
  if decide (1 < (s1.length:Int)) then
   au (idx s1 0) fun x1=>
   some ((x1.toNat:Int) == 48)
  else
   some false) fun b1=>
 if b1 then
 some (0,false)
 else
 Dc s1 BIG 0 0

def Ag (s1:Str):Option (Int × Bool):=
 au (
  if !(s1 == ([]:Str)) then
  au (idx s1 0) fun x1=>
  some ((x1.toNat:Int) == 45)
  else
  some false) fun b1=>
 if b1 then
 au (sl s1 1 (s1.length:Int)) fun x2=>
 fM (Oa x2) fun n1 ok1=>
 some ((bZ (0 - n1)),(ok1 && (n1 != 0)))
 else
 Oa s1

def Az (s1:Str) (t1:Str):Nat→Int→Option Int
 | 0,_=>none
 | bT + 1,i1=>
 if decide ((bZ (i1 + (t1.length:Int)))≤(s1.length:Int)) then
  au (sl s1 i1 (bZ (i1 + (t1.length:Int)))) fun x1=>
  if x1 == t1 then
  some i1
  else
  Az s1 t1 bT (bZ (i1 + 1))
 else
  some (-1)

def Gu (s1:Str) (t1:Str) (IQ:Int):Option Int:=
 Az s1 t1 BIG IQ

def sG (a1:ah) (b1:ah):Nat→Int→Option (ah × Int)
 | 0,_=>none
 | bT + 1,i1=>
 if decide (i1 < (a1.aO.length:Int)) then
  au (idx a1.aO i1) fun e1=>
  au (yP e1 b1) fun x1=>
  if x1 then
  au (jf true) fun x2=>
  some (x2,0)
  else
  sG a1 b1 bT (bZ (i1 + 1))
 else
  au (jf false) fun x3=>
  some (x3,0)

def Bq (a1:ah) (b1:ah):Option (ah × Int):=
 if a1.kind == 4 then
 sG a1 b1 BIG 0
 else
 if (b1.kind != 3) || ((a1.kind != 3) && (a1.kind != 5)) then
  some ((ah.mk 0 false 0 ([]:Str) [] []),9)
 else
  if a1.kind == 5 then
  fM (Kv a1 b1.bR) fun x4 ok1=>
  au (jf ok1) fun x5=>
  some (x5,0)
  else
  au (Gu a1.bR b1.bR 0) fun x6=>
  au (jf (decide (0≤x6))) fun x7=>
  some (x7,0)

def zO (nG:ah→Option Int) (v1:ah):Nat→Int→Int→Option Int
 | 0,_,_=>none
 | bT + 1,n1,i1=>
 if decide (i1 < (v1.aO.length:Int)) then
  au (idx v1.aO i1) fun e1=>
  au (nG e1) fun x1=>
  zO nG v1 bT (if n1 < (bZ (1 + x1)) then (bZ (1 + x1)) else n1) (bZ (i1 + 1))
 else
  some n1

def Fp (nG:ah→Option Int) (v1:ah):Option Int:=
 if (v1.kind != 4) && (v1.kind != 5) then
 some 1
 else
 zO nG v1 BIG 2 0

def qG :Nat→ah→Option Int
 | 0,_=>none
 | k + 1,qg=>Fp (qG k) qg

def Gz (qg:ah):Option Int:=qG BIG qg

def lD (v1:ah):Option (ah × Int):=
 if (decide (v1.dI < (-9007199254740992))) || (decide (9007199254740992 < v1.dI)) then
 some ((ah.mk 0 false 0 ([]:Str) [] []),11)
 else
 if (decide (4096 < (v1.bR.length:Int))) || (decide (1024 < (v1.aO.length:Int))) then
  some ((ah.mk 0 false 0 ([]:Str) [] []),3)
 else
  au (Gz v1) fun x1=>
  if decide (16 < x1) then
  some ((ah.mk 0 false 0 ([]:Str) [] []),13)
  else
  some (v1,0)

def u7 (a1:ah) (b1:ah):Nat→Str→Int→Option (ah × Int)
 | 0,_,_=>none
 | bT + 1,s1,i1=>
 if decide (i1 < (a1.aO.length:Int)) then
  au (idx a1.aO i1) fun e1=>
  if e1.kind != 3 then
  some ((ah.mk 0 false 0 ([]:Str) [] []),9)
  else
  if decide (0 < i1) then
   au (app s1 b1.bR) fun s2=>
   au (idx a1.aO i1) fun e2=>
   au (app s2 e2.bR) fun s3=>
   u7 a1 b1 bT s3 (bZ (i1 + 1))
  else
   au (idx a1.aO i1) fun e3=>
   au (app s1 e3.bR) fun s4=>
   u7 a1 b1 bT s4 (bZ (i1 + 1))
 else
  au (qE s1) fun x1=>
  lD x1

def MH (a1:ah) (b1:ah):Option (ah × Int):=
 if (a1.kind != 4) || (b1.kind != 3) then
 some ((ah.mk 0 false 0 ([]:Str) [] []),9)
 else
 u7 a1 b1 BIG ([]:Str) 0

def yG (s1:Str) (Cw:Str):Nat→List ah→Int→Int→Option (ah × Int)
 | 0,_,_,_=>none
 | bT + 1,l1,IQ,at2=>
 if decide (0≤at2) then
  au (sl s1 IQ at2) fun x1=>
  au (qE x1) fun x2=>
  au (app l1 [x2]) fun l2=>
  au (Gu s1 Cw (bZ (at2 + (Cw.length:Int)))) fun at3=>
  yG s1 Cw bT l2 (bZ (at2 + (Cw.length:Int))) at3
 else
  au (sl s1 IQ (s1.length:Int)) fun x3=>
  au (qE x3) fun x4=>
  au (app l1 [x4]) fun x5=>
  lD (ah.mk 4 false 0 ([]:Str) x5 [])

def CY (s1:Str) (Cw:Str):Option (ah × Int):=
 if Cw == ([]:Str) then
 some ((ah.mk 0 false 0 ([]:Str) [] []),1)
 else
 au (Gu s1 Cw 0) fun mE=>
 yG s1 Cw BIG [] 0 mE
end Go.Ft
