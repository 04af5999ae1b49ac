/- Proved here: nothing: the functional texts of the functions that the statements reach, as our program wrote them. -/
import Derived.Test.YtfiahdjachcaiaaWords
set_option linter.unusedVariables false
set_option linter.unusedSimpArgs false
namespace Go.Ft
open Go
structure ApiToken where
  kind : Int
  text : Str
  at_ : Int
  deriving DecidableEq

def lexer_Tokens_1 (rx1 : Int) : Option Bool :=
  some ((rx1 == 32) || (rx1 == 9))

def lexer_while_l1 (s1 : Str) (class1 : UInt8 → Option Bool) : Nat → Int → Option Int
  | 0, _ => none
  | k + 1, at2 =>
    bind1 (
        if decide (at2 < (s1.length : Int)) then
          bind1 (idx s1 at2) fun x1 =>
          class1 x1
        else
          some false) fun b1 =>
    if b1 then
      lexer_while_l1 s1 class1 k (w64 (at2 + 1))
    else
      some at2

def lexer_while (s1 : Str) (at1 : Int) (class1 : UInt8 → Option Bool) : Option Int :=
  lexer_while_l1 s1 class1 BIG at1

def lexer_Tokens_2 (c1 : UInt8) : Option Bool :=
  some ((c1.toNat : Int) != 10)

def lexer_letter (c1 : UInt8) : Option Bool :=
  some ((((decide (97 ≤ (c1.toNat : Int))) && (decide ((c1.toNat : Int) ≤ 122))) || ((decide (65 ≤ (c1.toNat : Int))) && (decide ((c1.toNat : Int) ≤ 90)))) || ((c1.toNat : Int) == 95))

def lexer_digit (c1 : UInt8) : Option Bool :=
  some ((decide (48 ≤ (c1.toNat : Int))) && (decide ((c1.toNat : Int) ≤ 57)))

def lexer_name_1 (c1 : UInt8) : Option Bool :=
  bind1 (lexer_letter c1) fun x1 =>
  if x1 then
    some true
  else
    lexer_digit c1

def lexer_name (src1 : Str) (at1 : Int) : Option (ApiToken × Int × Int) :=
  bind1 (lexer_while src1 at1 lexer_name_1) fun end1 =>
  if decide (64 < (w64 (end1 - at1))) then
    some ((ApiToken.mk 0 ([] : Str) 0), 0, 3)
  else
    bind1 (sl src1 at1 end1) fun x1 =>
    some ((ApiToken.mk 1 x1 at1), end1, 0)

def lexer_large_l1 (digits1 : Str) : Nat → Int → Int → Option Bool
  | 0, _, _ => none
  | k + 1, n1, i1 =>
    if (decide (i1 < (digits1.length : Int))) && (decide (n1 ≤ 9007199254740992)) then
      bind1 (idx digits1 i1) fun x1 =>
      lexer_large_l1 digits1 k (w64 ((w64 (10 * n1)) + ((x1 - 48).toNat : Int))) (w64 (i1 + 1))
    else
      some (decide (9007199254740992 < n1))

def lexer_large (digits1 : Str) : Option Bool :=
  lexer_large_l1 digits1 BIG 0 0

def lexer_number (src1 : Str) (at1 : Int) : Option (ApiToken × Int × Int) :=
  bind1 (lexer_while src1 at1 lexer_digit) fun end1 =>
  bind1 (sl src1 at1 end1) fun text1 =>
  bind1 (
      if decide (1 < (text1.length : Int)) then
        bind1 (idx text1 0) fun x1 =>
        some ((x1.toNat : Int) == 48)
      else
        some false) fun b1 =>
  bind1 (
      if b1 then
        some true
      else
        if decide (end1 < (src1.length : Int)) then
          bind1 (idx src1 end1) fun x2 =>
          lexer_letter x2
        else
          some false) fun b2 =>
  if b2 then
    some ((ApiToken.mk 0 ([] : Str) 0), 0, 5)
  else
    bind1 (lexer_large text1) fun x4 =>
    if x4 then
      some ((ApiToken.mk 0 ([] : Str) 0), 0, 2)
    else
      some ((ApiToken.mk 2 text1 at1), end1, 0)

def lexer_hex (c1 : UInt8) : Option Int :=
  bind1 (lexer_digit c1) fun x1 =>
  if x1 then
    some ((c1 - 48).toNat : Int)
  else
    if (decide (97 ≤ (c1.toNat : Int))) && (decide ((c1.toNat : Int) ≤ 102)) then
      some (w64 (((c1 - 97).toNat : Int) + 10))
    else
      if (decide (65 ≤ (c1.toNat : Int))) && (decide ((c1.toNat : Int) ≤ 70)) then
        some (w64 (((c1 - 65).toNat : Int) + 10))
      else
        some (-1)

def lexer_escaped (src1 : Str) (at1 : Int) : Option (UInt8 × Int) :=
  if decide ((src1.length : Int) ≤ (w64 (at1 + 1))) then
    some (0, 0)
  else
    bind1 (idx src1 (w64 (at1 + 1))) fun c1 =>
    if (c1.toNat : Int) == 34 then
      some (c1, 2)
    else
      if (c1.toNat : Int) == 92 then
        some (c1, 2)
      else
        if (c1.toNat : Int) == 110 then
          some (10, 2)
        else
          if (c1.toNat : Int) == 116 then
            some (9, 2)
          else
            if (c1.toNat : Int) == 120 then
              bind1 (
                  if decide ((w64 (at1 + 3)) < (src1.length : Int)) then
                    bind1 (idx src1 (w64 (at1 + 2))) fun x1 =>
                    bind1 (lexer_hex x1) fun x2 =>
                    some (decide (0 ≤ x2))
                  else
                    some false) fun b1 =>
              bind1 (
                  if b1 then
                    bind1 (idx src1 (w64 (at1 + 3))) fun x3 =>
                    bind1 (lexer_hex x3) fun x4 =>
                    some (decide (0 ≤ x4))
                  else
                    some false) fun b2 =>
              if b2 then
                bind1 (idx src1 (w64 (at1 + 2))) fun x5 =>
                bind1 (lexer_hex x5) fun x6 =>
                bind1 (idx src1 (w64 (at1 + 3))) fun x7 =>
                bind1 (lexer_hex x7) fun x8 =>
                some ((byteOf (w64 ((w64 (16 * x6)) + x8))), 4)
              else
                some (0, 0)
            else
              some (0, 0)

def lexer_short (src1 : Str) (at1 : Int) : Option Bool :=
  bind1 (sl src1 (w64 (at1 + 1)) (src1.length : Int)) fun rest1 =>
  if (rest1 == ([] : Str)) || (rest1 == ([120] : Str)) then
    some true
  else
    bind1 (
        if (rest1.length : Int) == 2 then
          bind1 (idx rest1 0) fun x1 =>
          some ((x1.toNat : Int) == 120)
        else
          some false) fun b2 =>
    if b2 then
      bind1 (idx rest1 1) fun x2 =>
      bind1 (lexer_hex x2) fun x3 =>
      some (decide (0 ≤ x3))
    else
      some false

def lexer_text_l1 (src1 : Str) (at1 : Int) : Nat → Int → Str → Option (ApiToken × Int × Int)
  | 0, _, _ => none
  | k + 1, i1, b1 =>
    if decide (i1 < (src1.length : Int)) then
      bind1 (idx src1 i1) fun c1 =>
      if (c1.toNat : Int) == 34 then
        if decide (4096 < (b1.length : Int)) then
          some ((ApiToken.mk 0 ([] : Str) 0), 0, 3)
        else
          some ((ApiToken.mk 3 b1 at1), (w64 (i1 + 1)), 0)
      else
        if decide ((c1.toNat : Int) < 32) then
          some ((ApiToken.mk 0 ([] : Str) 0), 0, 5)
        else
          if (c1.toNat : Int) == 92 then
            bind2 (lexer_escaped src1 i1) fun x1 n1 =>
            bind1 (
                if n1 == 0 then
                  lexer_short src1 i1
                else
                  some false) fun b2 =>
            if b2 then
              some ((ApiToken.mk 0 ([] : Str) 0), 0, 4)
            else
              if n1 == 0 then
                some ((ApiToken.mk 0 ([] : Str) 0), 0, 5)
              else
                bind1 (app b1 [x1]) fun b3 =>
                lexer_text_l1 src1 at1 k (w64 (i1 + n1)) b3
          else
            bind1 (app b1 [c1]) fun b4 =>
            lexer_text_l1 src1 at1 k (w64 (i1 + 1)) b4
    else
      some ((ApiToken.mk 0 ([] : Str) 0), 0, 4)

def lexer_text (src1 : Str) (at1 : Int) : Option (ApiToken × Int × Int) :=
  lexer_text_l1 src1 at1 BIG (w64 (at1 + 1)) []

def lexer_operator_l1 (src1 : Str) (at1 : Int) : Nat → Int → Option (ApiToken × Int × Int)
  | 0, _ => none
  | k + 1, x1 =>
    if decide (x1 < (([2, 1] : List Int).length : Int)) then
      bind1 (idx ([2, 1] : List Int) x1) fun n1 =>
      if decide ((src1.length : Int) < (w64 (at1 + n1))) then
        lexer_operator_l1 src1 at1 k (w64 (x1 + 1))
      else
        bind1 (sl src1 at1 (w64 (at1 + n1))) fun s1 =>
        if s1 == ([124, 124] : Str) then
          some ((ApiToken.mk 4 s1 at1), (w64 (at1 + n1)), 0)
        else
          if s1 == ([38, 38] : Str) then
            some ((ApiToken.mk 4 s1 at1), (w64 (at1 + n1)), 0)
          else
            if s1 == ([61, 61] : Str) then
              some ((ApiToken.mk 4 s1 at1), (w64 (at1 + n1)), 0)
            else
              if s1 == ([33, 61] : Str) then
                some ((ApiToken.mk 4 s1 at1), (w64 (at1 + n1)), 0)
              else
                if s1 == ([60, 61] : Str) then
                  some ((ApiToken.mk 4 s1 at1), (w64 (at1 + n1)), 0)
                else
                  if s1 == ([62, 61] : Str) then
                    some ((ApiToken.mk 4 s1 at1), (w64 (at1 + n1)), 0)
                  else
                    if s1 == ([60] : Str) then
                      some ((ApiToken.mk 4 s1 at1), (w64 (at1 + n1)), 0)
                    else
                      if s1 == ([62] : Str) then
                        some ((ApiToken.mk 4 s1 at1), (w64 (at1 + n1)), 0)
                      else
                        if s1 == ([43] : Str) then
                          some ((ApiToken.mk 4 s1 at1), (w64 (at1 + n1)), 0)
                        else
                          if s1 == ([45] : Str) then
                            some ((ApiToken.mk 4 s1 at1), (w64 (at1 + n1)), 0)
                          else
                            if s1 == ([42] : Str) then
                              some ((ApiToken.mk 4 s1 at1), (w64 (at1 + n1)), 0)
                            else
                              if s1 == ([47] : Str) then
                                some ((ApiToken.mk 4 s1 at1), (w64 (at1 + n1)), 0)
                              else
                                if s1 == ([37] : Str) then
                                  some ((ApiToken.mk 4 s1 at1), (w64 (at1 + n1)), 0)
                                else
                                  if s1 == ([33] : Str) then
                                    some ((ApiToken.mk 4 s1 at1), (w64 (at1 + n1)), 0)
                                  else
                                    if s1 == ([63] : Str) then
                                      some ((ApiToken.mk 4 s1 at1), (w64 (at1 + n1)), 0)
                                    else
                                      if s1 == ([58] : Str) then
                                        some ((ApiToken.mk 4 s1 at1), (w64 (at1 + n1)), 0)
                                      else
                                        if s1 == ([46] : Str) then
                                          some ((ApiToken.mk 4 s1 at1), (w64 (at1 + n1)), 0)
                                        else
                                          if s1 == ([44] : Str) then
                                            some ((ApiToken.mk 4 s1 at1), (w64 (at1 + n1)), 0)
                                          else
                                            if s1 == ([61] : Str) then
                                              some ((ApiToken.mk 4 s1 at1), (w64 (at1 + n1)), 0)
                                            else
                                              if s1 == ([40] : Str) then
                                                some ((ApiToken.mk 4 s1 at1), (w64 (at1 + n1)), 0)
                                              else
                                                if s1 == ([41] : Str) then
                                                  some ((ApiToken.mk 4 s1 at1), (w64 (at1 + n1)), 0)
                                                else
                                                  if s1 == ([91] : Str) then
                                                    some ((ApiToken.mk 4 s1 at1), (w64 (at1 + n1)), 0)
                                                  else
                                                    if s1 == ([93] : Str) then
                                                      some ((ApiToken.mk 4 s1 at1), (w64 (at1 + n1)), 0)
                                                    else
                                                      if s1 == ([123] : Str) then
                                                        some ((ApiToken.mk 4 s1 at1), (w64 (at1 + n1)), 0)
                                                      else
                                                        if s1 == ([125] : Str) then
                                                          some ((ApiToken.mk 4 s1 at1), (w64 (at1 + n1)), 0)
                                                        else
                                                          lexer_operator_l1 src1 at1 k (w64 (x1 + 1))
    else
      some ((ApiToken.mk 0 ([] : Str) 0), 0, 5)

def lexer_operator (src1 : Str) (at1 : Int) : Option (ApiToken × Int × Int) :=
  lexer_operator_l1 src1 at1 BIG 0

def lexer_token (src1 : Str) (at1 : Int) : Option (ApiToken × Int × Int) :=
  bind1 (idx src1 at1) fun c1 =>
  bind1 (lexer_letter c1) fun x1 =>
  if x1 then
    lexer_name src1 at1
  else
    bind1 (lexer_digit c1) fun x5 =>
    if x5 then
      lexer_number src1 at1
    else
      if (c1.toNat : Int) == 34 then
        lexer_text src1 at1
      else
        lexer_operator src1 at1

def lexer_brackets (op1 : Str) (open1 : Int) : Option Int :=
  if op1 == ([40] : Str) then
    some (w64 (open1 + 1))
  else
    if op1 == ([91] : Str) then
      some (w64 (open1 + 1))
    else
      if op1 == ([41] : Str) then
        some (if 0 < (w64 (open1 - 1)) then (w64 (open1 - 1)) else 0)
      else
        if op1 == ([93] : Str) then
          some (if 0 < (w64 (open1 - 1)) then (w64 (open1 - 1)) else 0)
        else
          some open1

def lexer_Tokens_l1 (src1 : Str) : Nat → List ApiToken → Int → Int → Nat → Option (List ApiToken × Int × Int)
  | 0, _, _, _, _ => none
  | k + 1, out1, next1, open1, pos1 =>
    if decide (pos1 < src1.length) then
      bind1 (
          if decide ((pos1 : Int) < next1) then
            some true
          else
            lexer_Tokens_1 ((dec src1 pos1).1 : Int)) fun b1 =>
      if b1 then
        lexer_Tokens_l1 src1 k out1 next1 open1 (pos1 + (dec src1 pos1).2)
      else
        if ((dec src1 pos1).1 : Int) == 35 then
          bind1 (lexer_while src1 (pos1 : Int) lexer_Tokens_2) fun next2 =>
          lexer_Tokens_l1 src1 k out1 next2 open1 (pos1 + (dec src1 pos1).2)
        else
          if ((dec src1 pos1).1 : Int) == 10 then
            bind1 (
                if open1 == 0 then
                  if (out1.length : Int) == 0 then
                    some true
                  else
                    bind1 (idx out1 (w64 ((out1.length : Int) - 1))) fun e1 =>
                    some (e1.kind != 5)
                else
                  some false) fun b2 =>
            if b2 then
              bind1 (app out1 [(ApiToken.mk 5 ([] : Str) (pos1 : Int))]) fun out2 =>
              lexer_Tokens_l1 src1 k out2 next1 open1 (pos1 + (dec src1 pos1).2)
            else
              lexer_Tokens_l1 src1 k out1 next1 open1 (pos1 + (dec src1 pos1).2)
          else
            bind3 (lexer_token src1 (pos1 : Int)) fun x2 end1 e2 =>
            if e2 != 0 then
              some ([], (pos1 : Int), e2)
            else
              if x2.kind == 4 then
                bind1 (lexer_brackets x2.text open1) fun open2 =>
                bind1 (app out1 [x2]) fun out3 =>
                lexer_Tokens_l1 src1 k out3 end1 open2 (pos1 + (dec src1 pos1).2)
              else
                bind1 (app out1 [x2]) fun out4 =>
                lexer_Tokens_l1 src1 k out4 end1 open1 (pos1 + (dec src1 pos1).2)
    else
      some (out1, 0, 0)

def lexer_Tokens (src1 : Str) : Option (List ApiToken × Int × Int) :=
  if decide (65536 < (src1.length : Int)) then
    some ([], 0, 3)
  else
    lexer_Tokens_l1 src1 BIG [] 0 0 0

def r09_Same_l1 (a1 : List ApiToken) (b1 : List ApiToken) (indices1 : Bool) : Nat → Int → Option Bool
  | 0, _ => none
  | k + 1, i1 =>
    if decide (i1 < (a1.length : Int)) then
      bind1 (idx a1 i1) fun e1 =>
      bind1 (idx b1 i1) fun e2 =>
      bind1 (
          if e1.kind != e2.kind then
            some true
          else
            bind1 (idx a1 i1) fun e3 =>
            bind1 (idx b1 i1) fun e4 =>
            some (!(e3.text == e4.text))) fun b2 =>
      bind1 (
          if b2 then
            some true
          else
            if indices1 then
              bind1 (idx a1 i1) fun e5 =>
              bind1 (idx b1 i1) fun e6 =>
              some (e5.at_ != e6.at_)
            else
              some false) fun b3 =>
      if b3 then
        some false
      else
        r09_Same_l1 a1 b1 indices1 k (w64 (i1 + 1))
    else
      some true

def r09_Same (a1 : List ApiToken) (b1 : List ApiToken) (indices1 : Bool) : Option Bool :=
  if (a1.length : Int) != (b1.length : Int) then
    some false
  else
    r09_Same_l1 a1 b1 indices1 BIG 0

def lexer_Quote_l1 (s1 : Str) : Nat → Int → Str → Option Str
  | 0, _, _ => none
  | k + 1, i1, b2 =>
    if decide (i1 < (s1.length : Int)) then
      bind1 (idx s1 i1) fun c1 =>
      if ((c1.toNat : Int) == 34) || ((c1.toNat : Int) == 92) then
        bind1 (sl s1 i1 (w64 (i1 + 1))) fun x1 =>
        bind1 (app ([92] : Str) x1) fun x2 =>
        bind1 (app b2 x2) fun b3 =>
        lexer_Quote_l1 s1 k (w64 (i1 + 1)) b3
      else
        if (c1.toNat : Int) == 10 then
          bind1 (app b2 ([92, 110] : Str)) fun b4 =>
          lexer_Quote_l1 s1 k (w64 (i1 + 1)) b4
        else
          if (c1.toNat : Int) == 9 then
            bind1 (app b2 ([92, 116] : Str)) fun b5 =>
            lexer_Quote_l1 s1 k (w64 (i1 + 1)) b5
          else
            if (decide ((c1.toNat : Int) < 32)) || (decide (126 < (c1.toNat : Int))) then
              bind1 (sl ([48, 49, 50, 51, 52, 53, 54, 55, 56, 57, 97, 98, 99, 100, 101, 102] : Str) ((c1 / 16).toNat : Int) (((c1 / 16) + 1).toNat : Int)) fun x3 =>
              bind1 (app ([92, 120] : Str) x3) fun x4 =>
              bind1 (sl ([48, 49, 50, 51, 52, 53, 54, 55, 56, 57, 97, 98, 99, 100, 101, 102] : Str) ((c1 % 16).toNat : Int) (((c1 % 16) + 1).toNat : Int)) fun x5 =>
              bind1 (app x4 x5) fun x6 =>
              bind1 (app b2 x6) fun b6 =>
              lexer_Quote_l1 s1 k (w64 (i1 + 1)) b6
            else
              bind1 (app b2 [c1]) fun b7 =>
              lexer_Quote_l1 s1 k (w64 (i1 + 1)) b7
    else
      app b2 [34]

def lexer_Quote (s1 : Str) : Option Str :=
  bind1 (app [] [34]) fun b1 =>
  lexer_Quote_l1 s1 BIG 0 b1

def lexer_Join_l1 (ts1 : List ApiToken) : Nat → Int → Str → Option Str
  | 0, _, _ => none
  | k + 1, i1, b1 =>
    if decide (i1 < (ts1.length : Int)) then
      bind1 (idx ts1 i1) fun e1 =>
      bind1 (
          if (decide (0 < i1)) && (e1.kind != 5) then
            bind1 (idx ts1 (w64 (i1 - 1))) fun e2 =>
            some (e2.kind != 5)
          else
            some false) fun b2 =>
      if b2 then
        bind1 (app b1 [32]) fun b3 =>
        if e1.kind == 3 then
          bind1 (lexer_Quote e1.text) fun x1 =>
          bind1 (app b3 x1) fun b4 =>
          lexer_Join_l1 ts1 k (w64 (i1 + 1)) b4
        else
          if e1.kind == 5 then
            bind1 (app b3 [10]) fun b5 =>
            lexer_Join_l1 ts1 k (w64 (i1 + 1)) b5
          else
            bind1 (app b3 e1.text) fun b6 =>
            lexer_Join_l1 ts1 k (w64 (i1 + 1)) b6
      else
        if e1.kind == 3 then
          bind1 (lexer_Quote e1.text) fun x2 =>
          bind1 (app b1 x2) fun b7 =>
          lexer_Join_l1 ts1 k (w64 (i1 + 1)) b7
        else
          if e1.kind == 5 then
            bind1 (app b1 [10]) fun b8 =>
            lexer_Join_l1 ts1 k (w64 (i1 + 1)) b8
          else
            bind1 (app b1 e1.text) fun b9 =>
            lexer_Join_l1 ts1 k (w64 (i1 + 1)) b9
    else
      some b1

def lexer_Join (ts1 : List ApiToken) : Option Str :=
  lexer_Join_l1 ts1 BIG 0 []

def l09_awake  : Option Bool :=
  bind3 (lexer_Tokens ([97, 32, 60, 61, 32, 49, 48, 32, 35, 32, 120] : Str)) fun l1 at1 e1 =>
  bind1 (
      if (e1 != 0) || (at1 != 0) then
        some true
      else
        bind1 (r09_Same l1 [(ApiToken.mk 1 ([97] : Str) 0), (ApiToken.mk 4 ([60, 61] : Str) 2), (ApiToken.mk 2 ([49, 48] : Str) 5)] true) fun x1 =>
        some (!x1)) fun b1 =>
  if b1 then
    some false
  else
    bind1 (app ([97] : Str) ([10] : List UInt8)) fun x2 =>
    bind1 (app x2 ([10] : List UInt8)) fun x3 =>
    bind1 (app x3 ([98, 40] : Str)) fun x4 =>
    bind1 (app x4 ([10] : List UInt8)) fun x5 =>
    bind1 (app x5 ([41] : Str)) fun x6 =>
    bind3 (lexer_Tokens x6) fun m1 x7 f1 =>
    bind3 (lexer_Tokens ([97, 32, 48, 48, 55] : Str)) fun x8 kx1 g1 =>
    bind1 (
        if (f1 == 0) && ((m1.length : Int) == 5) then
          bind1 (idx m1 1) fun e2 =>
          some (e2.kind == 5)
        else
          some false) fun b2 =>
    bind1 (
        if (b2 && (g1 == 5)) && (kx1 == 2) then
          bind1 (lexer_Join l1) fun x9 =>
          some (x9 == ([97, 32, 60, 61, 32, 49, 48] : Str))
        else
          some false) fun b3 =>
    if b3 then
      bind1 (lexer_Quote ([10] : List UInt8)) fun x10 =>
      some (x10 == ([34, 92, 110, 34] : List UInt8))
    else
      some false

def r09_ignored_l1 (src1 : Str) : Nat → Int → Bool → Option Int
  | 0, _, _ => none
  | k + 1, at2, comment1 =>
    bind1 (
        if decide (at2 < (src1.length : Int)) then
          bind1 (idx src1 at2) fun x1 =>
          some ((x1.toNat : Int) != 10)
        else
          some false) fun b1 =>
    bind1 (
        if b1 then
          bind1 (
              if comment1 then
                some true
              else
                bind1 (idx src1 at2) fun x2 =>
                some ((x2.toNat : Int) == 32)) fun b3 =>
          bind1 (
              if b3 then
                some true
              else
                bind1 (idx src1 at2) fun x3 =>
                some ((x3.toNat : Int) == 9)) fun b4 =>
          if b4 then
            some true
          else
            bind1 (idx src1 at2) fun x4 =>
            some ((x4.toNat : Int) == 35)
        else
          some false) fun b2 =>
    if b2 then
      bind1 (
          if comment1 then
            some true
          else
            bind1 (idx src1 at2) fun x5 =>
            some ((x5.toNat : Int) == 35)) fun b6 =>
      r09_ignored_l1 src1 k (w64 (at2 + 1)) b6
    else
      some at2

def r09_ignored (src1 : Str) (at1 : Int) : Option Int :=
  r09_ignored_l1 src1 BIG at1 false

def r09_digit (c1 : UInt8) : Option Bool :=
  some ((decide (48 ≤ (c1.toNat : Int))) && (decide ((c1.toNat : Int) ≤ 57)))

def r09_digits_l1 (src1 : Str) (at1 : Int) : Nat → Int → Option Int
  | 0, _ => none
  | k + 1, n1 =>
    bind1 (
        if decide ((w64 (at1 + n1)) < (src1.length : Int)) then
          bind1 (idx src1 (w64 (at1 + n1))) fun x1 =>
          r09_digit x1
        else
          some false) fun b1 =>
    if b1 then
      r09_digits_l1 src1 at1 k (w64 (n1 + 1))
    else
      some n1

def r09_digits (src1 : Str) (at1 : Int) : Option Int :=
  r09_digits_l1 src1 at1 BIG 0

def r09_letter (c1 : UInt8) : Option Bool :=
  some ((((decide (97 ≤ (c1.toNat : Int))) && (decide ((c1.toNat : Int) ≤ 122))) || ((decide (65 ≤ (c1.toNat : Int))) && (decide ((c1.toNat : Int) ≤ 90)))) || ((c1.toNat : Int) == 95))

def r09_word_l1 (src1 : Str) (at1 : Int) : Nat → Int → Option Int
  | 0, _ => none
  | k + 1, n1 =>
    bind1 (
        if decide ((w64 (at1 + n1)) < (src1.length : Int)) then
          bind1 (idx src1 (w64 (at1 + n1))) fun x1 =>
          bind1 (r09_letter x1) fun x2 =>
          if x2 then
            some true
          else
            bind1 (idx src1 (w64 (at1 + n1))) fun x3 =>
            r09_digit x3
        else
          some false) fun b1 =>
    if b1 then
      r09_word_l1 src1 at1 k (w64 (n1 + 1))
    else
      some n1

def r09_word (src1 : Str) (at1 : Int) : Option Int :=
  r09_word_l1 src1 at1 BIG 0

def r09_Int_l1 (s1 : Str) : Nat → Int → Int → Option (Int × Bool)
  | 0, _, _ => none
  | k + 1, n1, i1 =>
    if decide (i1 < (s1.length : Int)) then
      bind1 (idx s1 i1) fun x2 =>
      bind1 (r09_digit x2) fun x3 =>
      if !x3 then
        some (0, false)
      else
        bind1 (idx s1 i1) fun x4 =>
        r09_Int_l1 s1 k (w64 ((w64 ((w64 (10 * n1)) + (x4.toNat : Int))) - 48)) (w64 (i1 + 1))
    else
      some (n1, (decide (n1 ≤ 9007199254740992)))

def r09_Int (s1 : Str) : Option (Int × Bool) :=
  bind1 (
      if (s1 == ([] : Str)) || (decide (16 < (s1.length : Int))) then
        some true
      else
        if decide (1 < (s1.length : Int)) then
          bind1 (idx s1 0) fun x1 =>
          some ((x1.toNat : Int) == 48)
        else
          some false) fun b1 =>
  if b1 then
    some (0, false)
  else
    r09_Int_l1 s1 BIG 0 0

def r09_number (src1 : Str) (at1 : Int) : Option (ApiToken × Int × Int) :=
  bind1 (r09_digits src1 at1) fun n1 =>
  bind1 (r09_word src1 at1) fun x1 =>
  bind1 (
      if decide (n1 < x1) then
        some true
      else
        if decide (1 < n1) then
          bind1 (idx src1 at1) fun x2 =>
          some ((x2.toNat : Int) == 48)
        else
          some false) fun b1 =>
  if b1 then
    some ((ApiToken.mk 0 ([] : Str) 0), 0, 5)
  else
    bind1 (sl src1 at1 (w64 (at1 + n1))) fun x3 =>
    bind2 (r09_Int x3) fun x4 ok1 =>
    if !ok1 then
      some ((ApiToken.mk 0 ([] : Str) 0), 0, 2)
    else
      bind1 (sl src1 at1 (w64 (at1 + n1))) fun x5 =>
      some ((ApiToken.mk 2 x5 0), n1, 0)

def r09_hex (c1 : UInt8) : Option Int :=
  bind1 (r09_digit c1) fun x1 =>
  if x1 then
    some (w64 ((c1.toNat : Int) - 48))
  else
    if (decide (97 ≤ (c1.toNat : Int))) && (decide ((c1.toNat : Int) ≤ 102)) then
      some (w64 ((c1.toNat : Int) - 87))
    else
      if (decide (65 ≤ (c1.toNat : Int))) && (decide ((c1.toNat : Int) ≤ 70)) then
        some (w64 ((c1.toNat : Int) - 55))
      else
        some (-1)

def r09_escaped_l1 (src1 : Str) (at1 : Int) : Nat → Int → Int → Option (UInt8 × Int × Int)
  | 0, _, _ => none
  | k + 1, n1, i1 =>
    if decide (i1 < (w64 (at1 + 4))) then
      if decide ((src1.length : Int) ≤ i1) then
        some (0, 0, 4)
      else
        bind1 (idx src1 i1) fun x1 =>
        bind1 (r09_hex x1) fun x2 =>
        if decide (x2 < 0) then
          some (0, 0, 5)
        else
          bind1 (idx src1 i1) fun x3 =>
          bind1 (r09_hex x3) fun x4 =>
          r09_escaped_l1 src1 at1 k (w64 ((w64 (16 * n1)) + x4)) (w64 (i1 + 1))
    else
      some ((byteOf n1), 4, 0)

def r09_escaped (src1 : Str) (at1 : Int) : Option (UInt8 × Int × Int) :=
  r09_escaped_l1 src1 at1 BIG 0 (w64 (at1 + 2))

def r09_character (src1 : Str) (at1 : Int) : Option (UInt8 × Int × Int) :=
  bind1 (idx src1 at1) fun x1 =>
  if decide ((x1.toNat : Int) < 32) then
    some (0, 0, 5)
  else
    bind1 (idx src1 at1) fun x2 =>
    if (x2.toNat : Int) != 92 then
      bind1 (idx src1 at1) fun x3 =>
      some (x3, 1, 0)
    else
      if decide ((src1.length : Int) ≤ (w64 (at1 + 1))) then
        some (0, 0, 4)
      else
        bind1 (idx src1 (w64 (at1 + 1))) fun x4 =>
        if (x4.toNat : Int) == 34 then
          bind1 (idx src1 (w64 (at1 + 1))) fun x5 =>
          some (x5, 2, 0)
        else
          if (x4.toNat : Int) == 92 then
            bind1 (idx src1 (w64 (at1 + 1))) fun x6 =>
            some (x6, 2, 0)
          else
            if (x4.toNat : Int) == 110 then
              some (10, 2, 0)
            else
              if (x4.toNat : Int) == 116 then
                some (9, 2, 0)
              else
                if (x4.toNat : Int) == 120 then
                  r09_escaped src1 at1
                else
                  some (0, 0, 5)

def r09_text_l1 (src1 : Str) (at1 : Int) : Nat → List UInt8 → Int → Option (ApiToken × Int × Int)
  | 0, _, _ => none
  | k + 1, b1, i1 =>
    if decide (i1 < (src1.length : Int)) then
      bind1 (idx src1 i1) fun x1 =>
      if (x1.toNat : Int) == 34 then
        if decide (4096 < (b1.length : Int)) then
          some ((ApiToken.mk 0 ([] : Str) 0), 0, 3)
        else
          some ((ApiToken.mk 3 b1 0), (w64 ((w64 (i1 + 1)) - at1)), 0)
      else
        bind3 (r09_character src1 i1) fun c1 n1 e1 =>
        if e1 != 0 then
          some ((ApiToken.mk 0 ([] : Str) 0), 0, e1)
        else
          bind1 (app b1 ([c1] : List UInt8)) fun b2 =>
          r09_text_l1 src1 at1 k b2 (w64 (i1 + n1))
    else
      some ((ApiToken.mk 0 ([] : Str) 0), 0, 4)

def r09_text (src1 : Str) (at1 : Int) : Option (ApiToken × Int × Int) :=
  r09_text_l1 src1 at1 BIG [] (w64 (at1 + 1))

def r09_operator_l2 (src1 : Str) (at1 : Int) : Nat → Int → Option Int
  | 0, _ => none
  | k + 1, i2 =>
    if decide (i2 < 19) then
      bind1 (idx src1 at1) fun x3 =>
      bind1 (idx ([60, 62, 43, 45, 42, 47, 37, 33, 63, 58, 46, 44, 61, 40, 41, 91, 93, 123, 125] : Str) i2) fun x4 =>
      if (x3.toNat : Int) == (x4.toNat : Int) then
        some 1
      else
        r09_operator_l2 src1 at1 k (w64 (i2 + 1))
    else
      some 0

def r09_operator_l1 (src1 : Str) (at1 : Int) : Nat → Int → Option Int
  | 0, _ => none
  | k + 1, i1 =>
    if decide (i1 < 12) then
      bind1 (
          if decide ((w64 (at1 + 2)) ≤ (src1.length : Int)) then
            bind1 (sl src1 at1 (w64 (at1 + 2))) fun x1 =>
            bind1 (sl ([124, 124, 38, 38, 61, 61, 33, 61, 60, 61, 62, 61] : Str) i1 (w64 (i1 + 2))) fun x2 =>
            some (x1 == x2)
          else
            some false) fun b1 =>
      if b1 then
        some 2
      else
        r09_operator_l1 src1 at1 k (w64 (i1 + 2))
    else
      r09_operator_l2 src1 at1 BIG 0

def r09_operator (src1 : Str) (at1 : Int) : Option Int :=
  r09_operator_l1 src1 at1 BIG 0

def r09_token (src1 : Str) (at1 : Int) : Option (ApiToken × Int × Int) :=
  bind1 (idx src1 at1) fun x1 =>
  bind1 (r09_digit x1) fun x2 =>
  if x2 then
    r09_number src1 at1
  else
    bind1 (idx src1 at1) fun x6 =>
    if (x6.toNat : Int) == 34 then
      r09_text src1 at1
    else
      bind1 (r09_word src1 at1) fun n1 =>
      if decide (0 < n1) then
        if decide (64 < n1) then
          some ((ApiToken.mk 0 ([] : Str) 0), 0, 3)
        else
          bind1 (sl src1 at1 (w64 (at1 + n1))) fun x10 =>
          some ((ApiToken.mk 1 x10 0), n1, 0)
      else
        bind1 (r09_operator src1 at1) fun n2 =>
        if n2 == 0 then
          some ((ApiToken.mk 0 ([] : Str) 0), 0, 5)
        else
          bind1 (sl src1 at1 (w64 (at1 + n2))) fun x11 =>
          some ((ApiToken.mk 4 x11 0), n2, 0)

def r09_opened (open1 : Int) (t1 : ApiToken) : Option Int :=
  if (t1.kind == 4) && ((t1.text == ([40] : Str)) || (t1.text == ([91] : Str))) then
    some (w64 (open1 + 1))
  else
    if ((t1.kind == 4) && ((t1.text == ([41] : Str)) || (t1.text == ([93] : Str)))) && (decide (0 < open1)) then
      some (w64 (open1 - 1))
    else
      some open1

def r09_Tokens_l1 (src1 : Str) : Nat → List ApiToken → Int → Int → Option (List ApiToken × Int × Int)
  | 0, _, _, _ => none
  | k + 1, out1, open1, at2 =>
    if decide (at2 < (src1.length : Int)) then
      bind1 (idx src1 at2) fun x1 =>
      if (x1.toNat : Int) != 10 then
        bind3 (r09_token src1 at2) fun x2 kx1 e1 =>
        if e1 != 0 then
          some ([], at2, e1)
        else
          bind1 (
              if x2.kind != 5 then
                some true
              else
                if open1 == 0 then
                  if (out1.length : Int) == 0 then
                    some true
                  else
                    bind1 (idx out1 (w64 ((out1.length : Int) - 1))) fun e2 =>
                    some (e2.kind != 5)
                else
                  some false) fun b1 =>
          if b1 then
            bind1 (app out1 [(ApiToken.mk x2.kind x2.text at2)]) fun out2 =>
            bind1 (r09_opened open1 (ApiToken.mk x2.kind x2.text at2)) fun open2 =>
            bind1 (r09_ignored src1 (w64 (at2 + kx1))) fun at3 =>
            r09_Tokens_l1 src1 k out2 open2 at3
          else
            bind1 (r09_opened open1 (ApiToken.mk x2.kind x2.text at2)) fun open3 =>
            bind1 (r09_ignored src1 (w64 (at2 + kx1))) fun at4 =>
            r09_Tokens_l1 src1 k out1 open3 at4
      else
        bind1 (
            if (5 : Int) != 5 then
              some true
            else
              if open1 == 0 then
                if (out1.length : Int) == 0 then
                  some true
                else
                  bind1 (idx out1 (w64 ((out1.length : Int) - 1))) fun e3 =>
                  some (e3.kind != 5)
              else
                some false) fun b4 =>
        if b4 then
          bind1 (app out1 [(ApiToken.mk 5 ([] : Str) at2)]) fun out3 =>
          bind1 (r09_opened open1 (ApiToken.mk 5 ([] : Str) at2)) fun open4 =>
          bind1 (r09_ignored src1 (w64 (at2 + 1))) fun at5 =>
          r09_Tokens_l1 src1 k out3 open4 at5
        else
          bind1 (r09_opened open1 (ApiToken.mk 5 ([] : Str) at2)) fun open5 =>
          bind1 (r09_ignored src1 (w64 (at2 + 1))) fun at6 =>
          r09_Tokens_l1 src1 k out1 open5 at6
    else
      some (out1, 0, 0)

def r09_Tokens (src1 : Str) : Option (List ApiToken × Int × Int) :=
  if decide (65536 < (src1.length : Int)) then
    some ([], 0, 3)
  else
    bind1 (r09_ignored src1 0) fun at1 =>
    r09_Tokens_l1 src1 BIG [] 0 at1

def l09_LexerTokens (src1 : Str) : Option Bool :=
  if decide (70000 < (src1.length : Int)) then
    l09_awake
  else
    bind3 (lexer_Tokens src1) fun l1 at1 e1 =>
    bind3 (r09_Tokens src1) fun m1 kx1 f1 =>
    bind1 (r09_Same l1 m1 true) fun x2 =>
    if (x2 && (at1 == kx1)) && (e1 == f1) then
      l09_awake
    else
      some false

def r07_character (c1 : UInt8) : Option Str :=
  if (c1.toNat : Int) == 34 then
    some ([92, 34] : List UInt8)
  else
    if (c1.toNat : Int) == 92 then
      some ([92, 92] : List UInt8)
    else
      if (c1.toNat : Int) == 10 then
        some ([92, 110] : List UInt8)
      else
        if (c1.toNat : Int) == 9 then
          some ([92, 116] : List UInt8)
        else
          if (decide (32 ≤ (c1.toNat : Int))) && (decide ((c1.toNat : Int) ≤ 126)) then
            some ([c1] : List UInt8)
          else
            bind1 (idx ([48, 49, 50, 51, 52, 53, 54, 55, 56, 57, 97, 98, 99, 100, 101, 102] : Str) ((c1 / 16).toNat : Int)) fun x1 =>
            bind1 (idx ([48, 49, 50, 51, 52, 53, 54, 55, 56, 57, 97, 98, 99, 100, 101, 102] : Str) ((c1 % 16).toNat : Int)) fun x2 =>
            some ([92, 120, x1, x2] : List UInt8)

def r07_Quote_l1 (s1 : Str) : Nat → Str → Int → Option Str
  | 0, _, _ => none
  | k + 1, out1, i1 =>
    if decide (i1 < (s1.length : Int)) then
      bind1 (idx s1 i1) fun x1 =>
      bind1 (r07_character x1) fun x2 =>
      bind1 (app out1 x2) fun out2 =>
      r07_Quote_l1 s1 k out2 (w64 (i1 + 1))
    else
      app out1 ([34] : List UInt8)

def r07_Quote (s1 : Str) : Option Str :=
  r07_Quote_l1 s1 BIG ([34] : List UInt8) 0

def r09_Quote (s1 : Str) : Option Str :=
  r07_Quote s1

def r09_Join_l1 (ts1 : List ApiToken) : Nat → Str → Int → Option Str
  | 0, _, _ => none
  | k + 1, s1, i1 =>
    if decide (i1 < (ts1.length : Int)) then
      bind1 (
          if decide (0 < i1) then
            bind1 (idx ts1 i1) fun e1 =>
            some (e1.kind != 5)
          else
            some false) fun b1 =>
      bind1 (
          if b1 then
            bind1 (idx ts1 (w64 (i1 - 1))) fun e2 =>
            some (e2.kind != 5)
          else
            some false) fun b2 =>
      if b2 then
        bind1 (app s1 ([32] : Str)) fun s2 =>
        bind1 (idx ts1 i1) fun e3 =>
        if e3.kind == 3 then
          bind1 (idx ts1 i1) fun e4 =>
          bind1 (r09_Quote e4.text) fun x1 =>
          bind1 (app s2 x1) fun s3 =>
          r09_Join_l1 ts1 k s3 (w64 (i1 + 1))
        else
          if e3.kind == 5 then
            bind1 (app s2 ([10] : List UInt8)) fun s4 =>
            r09_Join_l1 ts1 k s4 (w64 (i1 + 1))
          else
            bind1 (idx ts1 i1) fun e5 =>
            bind1 (app s2 e5.text) fun s5 =>
            r09_Join_l1 ts1 k s5 (w64 (i1 + 1))
      else
        bind1 (idx ts1 i1) fun e6 =>
        if e6.kind == 3 then
          bind1 (idx ts1 i1) fun e7 =>
          bind1 (r09_Quote e7.text) fun x2 =>
          bind1 (app s1 x2) fun s6 =>
          r09_Join_l1 ts1 k s6 (w64 (i1 + 1))
        else
          if e6.kind == 5 then
            bind1 (app s1 ([10] : List UInt8)) fun s7 =>
            r09_Join_l1 ts1 k s7 (w64 (i1 + 1))
          else
            bind1 (idx ts1 i1) fun e8 =>
            bind1 (app s1 e8.text) fun s8 =>
            r09_Join_l1 ts1 k s8 (w64 (i1 + 1))
    else
      some s1

def r09_Join (ts1 : List ApiToken) : Option Str :=
  r09_Join_l1 ts1 BIG ([] : Str) 0

def l09_LexerJoins (ts1 : List ApiToken) (s1 : Str) : Option Bool :=
  if (decide (300 < (ts1.length : Int))) || (decide (5000 < (s1.length : Int))) then
    l09_awake
  else
    bind1 (lexer_Join ts1) fun x2 =>
    bind1 (r09_Join ts1) fun x3 =>
    bind1 (
        if x2 == x3 then
          bind1 (lexer_Quote s1) fun x4 =>
          bind1 (r09_Quote s1) fun x5 =>
          some (x4 == x5)
        else
          some false) fun b1 =>
    if b1 then
      l09_awake
    else
      some false

def l09_LexerBack (src1 : Str) : Option Bool :=
  bind3 (lexer_Tokens src1) fun l1 x1 e1 =>
  if e1 != 0 then
    if (l1.length : Int) == 0 then
      l09_awake
    else
      some false
  else
    bind1 (lexer_Join l1) fun s1 =>
    if decide (65536 < (s1.length : Int)) then
      l09_awake
    else
      bind3 (lexer_Tokens s1) fun m1 x4 f1 =>
      bind1 (
          if f1 == 0 then
            r09_Same l1 m1 false
          else
            some false) fun b2 =>
      bind1 (
          if b2 then
            bind1 (lexer_Join m1) fun x6 =>
            some (x6 == s1)
          else
            some false) fun b3 =>
      if b3 then
        l09_awake
      else
        some false

def l09_LexerStrings_l1 (q1 : Str) : Nat → Int → Option Bool
  | 0, _ => none
  | k + 1, i1 =>
    if decide (i1 < (q1.length : Int)) then
      bind1 (idx q1 i1) fun x3 =>
      bind1 (
          if decide ((x3.toNat : Int) < 32) then
            some true
          else
            bind1 (idx q1 i1) fun x4 =>
            some (decide (126 < (x4.toNat : Int)))) fun b4 =>
      if b4 then
        some false
      else
        l09_LexerStrings_l1 q1 k (w64 (i1 + 1))
    else
      l09_awake

def l09_LexerStrings (s1 : Str) : Option Bool :=
  bind1 (lexer_Quote s1) fun q1 =>
  if (decide (4096 < (s1.length : Int))) || (decide (65536 < (q1.length : Int))) then
    l09_awake
  else
    bind3 (lexer_Tokens q1) fun l1 x2 e1 =>
    bind1 (
        if (e1 != 0) || ((l1.length : Int) != 1) then
          some true
        else
          bind1 (idx l1 0) fun e2 =>
          some (e2.kind != 3)) fun b1 =>
    bind1 (
        if b1 then
          some true
        else
          bind1 (idx l1 0) fun e3 =>
          some (!(e3.text == s1))) fun b2 =>
    bind1 (
        if b2 then
          some true
        else
          bind1 (idx l1 0) fun e4 =>
          some (e4.at_ != 0)) fun b3 =>
    if b3 then
      some false
    else
      l09_LexerStrings_l1 q1 BIG 0

def l09_LexerEnds_l2 (src1 : Str) (l1 : List ApiToken) : Nat → Int → Option Bool
  | 0, _ => none
  | k + 1, i2 =>
    if decide (i2 < (l1.length : Int)) then
      bind1 (idx l1 i2) fun e2 =>
      bind1 (
          if decide (e2.at_ < 0) then
            some true
          else
            bind1 (idx l1 i2) fun e3 =>
            some (decide ((src1.length : Int) ≤ e3.at_))) fun b2 =>
      bind1 (
          if b2 then
            some true
          else
            if decide (0 < i2) then
              bind1 (idx l1 i2) fun e4 =>
              bind1 (idx l1 (w64 (i2 - 1))) fun e5 =>
              some (decide (e4.at_ ≤ e5.at_))
            else
              some false) fun b3 =>
      if b3 then
        some false
      else
        bind1 (idx l1 i2) fun e6 =>
        bind1 (
            if e6.kind == 3 then
              some true
            else
              bind1 (idx l1 i2) fun e7 =>
              some (e7.kind == 5)) fun b5 =>
        if b5 then
          l09_LexerEnds_l2 src1 l1 k (w64 (i2 + 1))
        else
          bind1 (idx l1 i2) fun e8 =>
          bind1 (idx l1 i2) fun e9 =>
          bind1 (
              if decide ((src1.length : Int) < (w64 (e8.at_ + (e9.text.length : Int)))) then
                some true
              else
                bind1 (idx l1 i2) fun e10 =>
                bind1 (idx l1 i2) fun e11 =>
                bind1 (idx l1 i2) fun e12 =>
                bind1 (sl src1 e10.at_ (w64 (e11.at_ + (e12.text.length : Int)))) fun x6 =>
                bind1 (idx l1 i2) fun e13 =>
                some (!(x6 == e13.text))) fun b6 =>
          if b6 then
            some false
          else
            l09_LexerEnds_l2 src1 l1 k (w64 (i2 + 1))
    else
      l09_awake

def l09_LexerEnds_l1 (src1 : Str) (blanks1 : UInt8) (l1 : List ApiToken) : Nat → Str → Int → Option Bool
  | 0, _, _ => none
  | k + 1, s1, i1 =>
    if decide (i1 < (blanks1.toNat : Int)) then
      bind1 (app s1 ([32] : Str)) fun s2 =>
      l09_LexerEnds_l1 src1 blanks1 l1 k s2 (w64 (i1 + 1))
    else
      bind1 (app s1 ([35, 32, 124, 124, 32, 48, 48, 55] : Str)) fun x3 =>
      bind3 (lexer_Tokens x3) fun m1 x4 f1 =>
      bind1 (
          if f1 != 0 then
            some true
          else
            bind1 (r09_Same l1 m1 true) fun x5 =>
            some (!x5)) fun b1 =>
      if b1 then
        some false
      else
        l09_LexerEnds_l2 src1 l1 BIG 0

def l09_LexerEnds (src1 : Str) (blanks1 : UInt8) : Option Bool :=
  bind3 (lexer_Tokens src1) fun l1 x1 e1 =>
  if (e1 != 0) || (decide (65236 < (src1.length : Int))) then
    l09_awake
  else
    l09_LexerEnds_l1 src1 blanks1 l1 BIG src1 0

def l09_LexerLines_l1 (a1 : Str) (b1 : Str) (l1 : List ApiToken) (m1 : List ApiToken) : Nat → Int → Int → Option Bool
  | 0, _, _ => none
  | k + 1, open1, i1 =>
    if decide (i1 < (l1.length : Int)) then
      bind1 (idx l1 i1) fun e2 =>
      bind1 (
          if e2.kind == 5 then
            some true
          else
            bind1 (idx l1 i1) fun e3 =>
            if e3.kind == 4 then
              bind1 (idx l1 i1) fun e4 =>
              bind1 (
                  if e4.text == ([40] : Str) then
                    some true
                  else
                    bind1 (idx l1 i1) fun e5 =>
                    some (e5.text == ([91] : Str))) fun b4 =>
              bind1 (
                  if b4 then
                    some true
                  else
                    bind1 (idx l1 i1) fun e6 =>
                    some (e6.text == ([41] : Str))) fun b5 =>
              if b5 then
                some true
              else
                bind1 (idx l1 i1) fun e7 =>
                some (e7.text == ([93] : Str))
            else
              some false) fun b2 =>
      if b2 then
        l09_LexerLines_l1 a1 b1 l1 m1 k (w64 (open1 + 1)) (w64 (i1 + 1))
      else
        l09_LexerLines_l1 a1 b1 l1 m1 k open1 (w64 (i1 + 1))
    else
      bind1 (
          if decide (0 < open1) then
            some true
          else
            bind1 (idx m1 0) fun e8 =>
            some (e8.kind == 5)) fun b7 =>
      if b7 then
        l09_awake
      else
        bind1 (app [] l1) fun want1 =>
        bind1 (app want1 [(ApiToken.mk 5 ([] : Str) 0)]) fun want2 =>
        bind1 (app want2 m1) fun want3 =>
        bind1 (app a1 ([10] : List UInt8)) fun x5 =>
        bind1 (app x5 b1) fun x6 =>
        bind3 (lexer_Tokens x6) fun all1 x7 g1 =>
        bind1 (
            if g1 == 0 then
              r09_Same all1 want3 false
            else
              some false) fun b8 =>
        if b8 then
          l09_awake
        else
          some false

def l09_LexerLines (a1 : Str) (b1 : Str) : Option Bool :=
  bind3 (lexer_Tokens a1) fun l1 x1 e1 =>
  bind3 (lexer_Tokens b1) fun m1 x2 f1 =>
  if ((((e1 != 0) || (f1 != 0)) || (decide (65536 < (w64 ((w64 ((a1.length : Int) + (b1.length : Int))) + 1))))) || ((l1.length : Int) == 0)) || ((m1.length : Int) == 0) then
    l09_awake
  else
    l09_LexerLines_l1 a1 b1 l1 m1 BIG 0 0
end Go.Ft
