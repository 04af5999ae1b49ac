/- Proved here: nothing: the functional texts of the functions that the statement reaches, as our program wrote them. -/
import Derived.Test.YtpgknnldbnmndaaGreatDoorCuWords
set_option linter.unusedVariables false
set_option linter.unusedSimpArgs false
namespace Go.Ft
open Go
structure ApiValue where
 kind : Int
 bool_ : Bool
 int_ : Int
 str_ : Str
 list_ : List ApiValue
 keys : List Str
structure ApiExpr where
 kind : Int
 name : Str
 value : ApiValue
 args : List ApiExpr
 keys : List Str
structure ApiToken where
 kind : Int
 text : Str
 at_ : Int
 deriving DecidableEq
structure ParserReader where
 ts : List ApiToken
 at_ : Int
 deriving DecidableEq
structure ParserFailure where
 at_ : Int
 code : Int
 deriving DecidableEq
structure ApiType where
 kind : Int
 elem : List ApiType
structure ApiDecl where
 name : Str
 type_ : ApiType

mutual
def ApiValue.bulk : ApiValue → Nat
 | ⟨a0, a1, a2, a3, a4, a5⟩ => 1 + 1 + 1 + (a3.length + 1) + (ApiValue.bulkL a4 + 1) + ((List.map (fun z : Str => (z.length + 1)) a5).sum + 1) + 1
def ApiValue.bulkL : List ApiValue → Nat
 | [] => 0
 | x :: xs => ApiValue.bulk x + ApiValue.bulkL xs
end
theorem ApiValue.bulkL_eq : ∀ l : List ApiValue, ApiValue.bulkL l = (l.map ApiValue.bulk).sum
 | [] => rfl
 | x :: l => by simp only [ApiValue.bulkL, List.map_cons, List.sum_cons, ApiValue.bulkL_eq l]
theorem ApiValue.bulk_eq (x : ApiValue) : ApiValue.bulk x = 1 + 1 + 1 + (x.str_.length + 1) + (ApiValue.bulkL x.list_ + 1) + ((List.map (fun z : Str => (z.length + 1)) x.keys).sum + 1) + 1 := by cases x; rfl
mutual
def ApiExpr.bulk : ApiExpr → Nat
 | ⟨a0, a1, a2, a3, a4⟩ => 1 + (a1.length + 1) + (ApiValue.bulk a2) + (ApiExpr.bulkL a3 + 1) + ((List.map (fun z : Str => (z.length + 1)) a4).sum + 1) + 1
def ApiExpr.bulkL : List ApiExpr → Nat
 | [] => 0
 | x :: xs => ApiExpr.bulk x + ApiExpr.bulkL xs
end
theorem ApiExpr.bulkL_eq : ∀ l : List ApiExpr, ApiExpr.bulkL l = (l.map ApiExpr.bulk).sum
 | [] => rfl
 | x :: l => by simp only [ApiExpr.bulkL, List.map_cons, List.sum_cons, ApiExpr.bulkL_eq l]
theorem ApiExpr.bulk_eq (x : ApiExpr) : ApiExpr.bulk x = 1 + (x.name.length + 1) + (ApiValue.bulk x.value) + (ApiExpr.bulkL x.args + 1) + ((List.map (fun z : Str => (z.length + 1)) x.keys).sum + 1) + 1 := by cases x; rfl
def ApiToken.bulk (x : ApiToken) : Nat := 1 + (x.text.length + 1) + 1 + 1
def ParserReader.bulk (x : ParserReader) : Nat := ((List.map (fun z : ApiToken => (ApiToken.bulk z)) x.ts).sum + 1) + 1 + 1
def ParserFailure.bulk (x : ParserFailure) : Nat := 1 + 1 + 1
mutual
def ApiType.bulk : ApiType → Nat
 | ⟨a0, a1⟩ => 1 + (ApiType.bulkL a1 + 1) + 1
def ApiType.bulkL : List ApiType → Nat
 | [] => 0
 | x :: xs => ApiType.bulk x + ApiType.bulkL xs
end
theorem ApiType.bulkL_eq : ∀ l : List ApiType, ApiType.bulkL l = (l.map ApiType.bulk).sum
 | [] => rfl
 | x :: l => by simp only [ApiType.bulkL, List.map_cons, List.sum_cons, ApiType.bulkL_eq l]
theorem ApiType.bulk_eq (x : ApiType) : ApiType.bulk x = 1 + (ApiType.bulkL x.elem + 1) + 1 := by cases x; rfl
def ApiDecl.bulk (x : ApiDecl) : Nat := (x.name.length + 1) + (ApiType.bulk x.type_) + 1

def r10_Count_l1 (go_r10_Count : ApiExpr → Option Int) (e1 : ApiExpr) : Nat → Int → Int → Option Int
 | 0, _, _ => none
 | kk1 + 1, n1, i1 =>
  if decide (i1 < (e1.args.length : Int)) then
   bind1 (idx e1.args i1) fun e2 =>
   bind1 (go_r10_Count e2) fun x1 =>
   r10_Count_l1 go_r10_Count e1 kk1 (w64 (n1 + x1)) (w64 (i1 + 1))
  else
   some n1

def r10_Count_b (go_r10_Count : ApiExpr → Option Int) (e1 : ApiExpr) : Option Int :=
 r10_Count_l1 go_r10_Count e1 BIG 1 0

def r10_Count_n : Nat → ApiExpr → Option Int
 | 0, _ => none
 | k + 1, ue1 => r10_Count_b (r10_Count_n k) ue1

def r10_Count (ue1 : ApiExpr) : Option Int := r10_Count_n BIG ue1

def l11_small (e1 : ApiExpr) (n1 : Int) : Option Bool :=
 bind1 (r10_Count e1) fun x1 =>
 some ((decide (x1 ≤ 5000)) && (decide (n1 ≤ 300)))

def lexer_Tokens_1 (rx1 : Int) : Option Bool :=
 some ((rx1 == 32) || (rx1 == 9))

def lexer_while_l1 (s1 : Str) (class1 : UInt8 → Option Bool) : Nat → Int → Option Int
 | 0, _ => none
 | kk1 + 1, at2 =>
  bind1 (
    if decide (at2 < (s1.length : Int)) then
     bind1 (idx s1 at2) fun x1 =>
     class1 x1
    else
     some false) fun b1 =>
  if b1 then
   lexer_while_l1 s1 class1 kk1 (w64 (at2 + 1))
  else
   some at2

def lexer_while (s1 : Str) (at1 : Int) (class1 : UInt8 → Option Bool) : Option Int :=
 lexer_while_l1 s1 class1 BIG at1

def lexer_Tokens_2 (c1 : UInt8) : Option Bool :=
 some ((c1.toNat : Int) != 10)

def lexer_letter (c1 : UInt8) : Option Bool :=
 some ((((decide (97 ≤ (c1.toNat : Int))) && (decide ((c1.toNat : Int) ≤ 122))) || ((decide (65 ≤ (c1.toNat : Int))) && (decide ((c1.toNat : Int) ≤ 90)))) || ((c1.toNat : Int) == 95))

def lexer_digit (c1 : UInt8) : Option Bool :=
 some ((decide (48 ≤ (c1.toNat : Int))) && (decide ((c1.toNat : Int) ≤ 57)))

def lexer_name_1 (c1 : UInt8) : Option Bool :=
 bind1 (lexer_letter c1) fun x1 =>
 if x1 then
  some true
 else
  lexer_digit c1

def lexer_name (src1 : Str) (at1 : Int) : Option (ApiToken × Int × Int) :=
 bind1 (lexer_while src1 at1 lexer_name_1) fun end1 =>
 if decide (64 < (w64 (end1 - at1))) then
  some ((ApiToken.mk 0 ([] : Str) 0), 0, 3)
 else
  bind1 (sl src1 at1 end1) fun x1 =>
  some ((ApiToken.mk 1 x1 at1), end1, 0)

def lexer_large_l1 (digits1 : Str) : Nat → Int → Int → Option Bool
 | 0, _, _ => none
 | kk1 + 1, n1, i1 =>
  if (decide (i1 < (digits1.length : Int))) && (decide (n1 ≤ 9007199254740992)) then
   bind1 (idx digits1 i1) fun x1 =>
   lexer_large_l1 digits1 kk1 (w64 ((w64 (10 * n1)) + ((x1 - 48).toNat : Int))) (w64 (i1 + 1))
  else
   some (decide (9007199254740992 < n1))

def lexer_large (digits1 : Str) : Option Bool :=
 lexer_large_l1 digits1 BIG 0 0

def lexer_number (src1 : Str) (at1 : Int) : Option (ApiToken × Int × Int) :=
 bind1 (lexer_while src1 at1 lexer_digit) fun end1 =>
 bind1 (sl src1 at1 end1) fun text1 =>
 bind1 (
   if decide (1 < (text1.length : Int)) then
    bind1 (idx text1 0) fun x1 =>
    some ((x1.toNat : Int) == 48)
   else
    some false) fun b1 =>
 bind1 (
   if b1 then
    some true
   else
    if decide (end1 < (src1.length : Int)) then
     bind1 (idx src1 end1) fun x2 =>
     lexer_letter x2
    else
     some false) fun b2 =>
 if b2 then
  some ((ApiToken.mk 0 ([] : Str) 0), 0, 5)
 else
  bind1 (lexer_large text1) fun x4 =>
  if x4 then
   some ((ApiToken.mk 0 ([] : Str) 0), 0, 2)
  else
   some ((ApiToken.mk 2 text1 at1), end1, 0)

def lexer_hex (c1 : UInt8) : Option Int :=
 bind1 (lexer_digit c1) fun x1 =>
 if x1 then
  some ((c1 - 48).toNat : Int)
 else
  if (decide (97 ≤ (c1.toNat : Int))) && (decide ((c1.toNat : Int) ≤ 102)) then
   some (w64 (((c1 - 97).toNat : Int) + 10))
  else
   if (decide (65 ≤ (c1.toNat : Int))) && (decide ((c1.toNat : Int) ≤ 70)) then
    some (w64 (((c1 - 65).toNat : Int) + 10))
   else
    some (-1)

def lexer_escaped (src1 : Str) (at1 : Int) : Option (UInt8 × Int) :=
 if decide ((src1.length : Int) ≤ (w64 (at1 + 1))) then
  some (0, 0)
 else
  bind1 (idx src1 (w64 (at1 + 1))) fun c1 =>
  if (c1.toNat : Int) == 34 then
   some (c1, 2)
  else
   if (c1.toNat : Int) == 92 then
    some (c1, 2)
   else
    if (c1.toNat : Int) == 110 then
     some (10, 2)
    else
     if (c1.toNat : Int) == 116 then
      some (9, 2)
     else
      if (c1.toNat : Int) == 120 then
       bind1 (
         if decide ((w64 (at1 + 3)) < (src1.length : Int)) then
          bind1 (idx src1 (w64 (at1 + 2))) fun x1 =>
          bind1 (lexer_hex x1) fun x2 =>
          some (decide (0 ≤ x2))
         else
          some false) fun b1 =>
       bind1 (
         if b1 then
          bind1 (idx src1 (w64 (at1 + 3))) fun x3 =>
          bind1 (lexer_hex x3) fun x4 =>
          some (decide (0 ≤ x4))
         else
          some false) fun b2 =>
       if b2 then
        bind1 (idx src1 (w64 (at1 + 2))) fun x5 =>
        bind1 (lexer_hex x5) fun x6 =>
        bind1 (idx src1 (w64 (at1 + 3))) fun x7 =>
        bind1 (lexer_hex x7) fun x8 =>
        some ((byteOf (w64 ((w64 (16 * x6)) + x8))), 4)
       else
        some (0, 0)
      else
       some (0, 0)

def lexer_short (src1 : Str) (at1 : Int) : Option Bool :=
 bind1 (sl src1 (w64 (at1 + 1)) (src1.length : Int)) fun rest1 =>
 if (rest1 == ([] : Str)) || (rest1 == ([120] : Str)) then
  some true
 else
  bind1 (
    if (rest1.length : Int) == 2 then
     bind1 (idx rest1 0) fun x1 =>
     some ((x1.toNat : Int) == 120)
    else
     some false) fun b2 =>
  if b2 then
   bind1 (idx rest1 1) fun x2 =>
   bind1 (lexer_hex x2) fun x3 =>
   some (decide (0 ≤ x3))
  else
   some false

def lexer_text_l1 (src1 : Str) (at1 : Int) : Nat → Int → Str → Option (ApiToken × Int × Int)
 | 0, _, _ => none
 | kk1 + 1, i1, b1 =>
  if decide (i1 < (src1.length : Int)) then
   bind1 (idx src1 i1) fun c1 =>
   if (c1.toNat : Int) == 34 then
    if decide (4096 < (b1.length : Int)) then
     some ((ApiToken.mk 0 ([] : Str) 0), 0, 3)
    else
     some ((ApiToken.mk 3 b1 at1), (w64 (i1 + 1)), 0)
   else
    if decide ((c1.toNat : Int) < 32) then
     some ((ApiToken.mk 0 ([] : Str) 0), 0, 5)
    else
     if (c1.toNat : Int) == 92 then
      bind2 (lexer_escaped src1 i1) fun x1 n1 =>
      bind1 (
        if n1 == 0 then
         lexer_short src1 i1
        else
         some false) fun b2 =>
      if b2 then
       some ((ApiToken.mk 0 ([] : Str) 0), 0, 4)
      else
       if n1 == 0 then
        some ((ApiToken.mk 0 ([] : Str) 0), 0, 5)
       else
        bind1 (app b1 [x1]) fun b3 =>
        lexer_text_l1 src1 at1 kk1 (w64 (i1 + n1)) b3
     else
      bind1 (app b1 [c1]) fun b4 =>
      lexer_text_l1 src1 at1 kk1 (w64 (i1 + 1)) b4
  else
   some ((ApiToken.mk 0 ([] : Str) 0), 0, 4)

def lexer_text (src1 : Str) (at1 : Int) : Option (ApiToken × Int × Int) :=
 lexer_text_l1 src1 at1 BIG (w64 (at1 + 1)) []

def lexer_operator_l1 (src1 : Str) (at1 : Int) : Nat → Int → Option (ApiToken × Int × Int)
 | 0, _ => none
 | kk1 + 1, x1 =>
  if decide (x1 < (([2, 1] : List Int).length : Int)) then
   bind1 (idx ([2, 1] : List Int) x1) fun n1 =>
   if decide ((src1.length : Int) < (w64 (at1 + n1))) then
    lexer_operator_l1 src1 at1 kk1 (w64 (x1 + 1))
   else
    bind1 (sl src1 at1 (w64 (at1 + n1))) fun s1 =>
    if s1 == ([124, 124] : Str) then
     some ((ApiToken.mk 4 s1 at1), (w64 (at1 + n1)), 0)
    else
     if s1 == ([38, 38] : Str) then
      some ((ApiToken.mk 4 s1 at1), (w64 (at1 + n1)), 0)
     else
      if s1 == ([61, 61] : Str) then
       some ((ApiToken.mk 4 s1 at1), (w64 (at1 + n1)), 0)
      else
       if s1 == ([33, 61] : Str) then
        some ((ApiToken.mk 4 s1 at1), (w64 (at1 + n1)), 0)
       else
        if s1 == ([60, 61] : Str) then
         some ((ApiToken.mk 4 s1 at1), (w64 (at1 + n1)), 0)
        else
         if s1 == ([62, 61] : Str) then
          some ((ApiToken.mk 4 s1 at1), (w64 (at1 + n1)), 0)
         else
          if s1 == ([60] : Str) then
           some ((ApiToken.mk 4 s1 at1), (w64 (at1 + n1)), 0)
          else
           if s1 == ([62] : Str) then
            some ((ApiToken.mk 4 s1 at1), (w64 (at1 + n1)), 0)
           else
            if s1 == ([43] : Str) then
             some ((ApiToken.mk 4 s1 at1), (w64 (at1 + n1)), 0)
            else
             if s1 == ([45] : Str) then
              some ((ApiToken.mk 4 s1 at1), (w64 (at1 + n1)), 0)
             else
              if s1 == ([42] : Str) then
               some ((ApiToken.mk 4 s1 at1), (w64 (at1 + n1)), 0)
              else
               if s1 == ([47] : Str) then
                some ((ApiToken.mk 4 s1 at1), (w64 (at1 + n1)), 0)
               else
                if s1 == ([37] : Str) then
                 some ((ApiToken.mk 4 s1 at1), (w64 (at1 + n1)), 0)
                else
                 if s1 == ([33] : Str) then
                  some ((ApiToken.mk 4 s1 at1), (w64 (at1 + n1)), 0)
                 else
                  if s1 == ([63] : Str) then
                   some ((ApiToken.mk 4 s1 at1), (w64 (at1 + n1)), 0)
                  else
                   if s1 == ([58] : Str) then
                    some ((ApiToken.mk 4 s1 at1), (w64 (at1 + n1)), 0)
                   else
                    if s1 == ([46] : Str) then
                     some ((ApiToken.mk 4 s1 at1), (w64 (at1 + n1)), 0)
                    else
                     if s1 == ([44] : Str) then
                      some ((ApiToken.mk 4 s1 at1), (w64 (at1 + n1)), 0)
                     else
                      if s1 == ([61] : Str) then
                       some ((ApiToken.mk 4 s1 at1), (w64 (at1 + n1)), 0)
                      else
                       if s1 == ([40] : Str) then
                        some ((ApiToken.mk 4 s1 at1), (w64 (at1 + n1)), 0)
                       else
                        if s1 == ([41] : Str) then
                         some ((ApiToken.mk 4 s1 at1), (w64 (at1 + n1)), 0)
                        else
                         if s1 == ([91] : Str) then
                          some ((ApiToken.mk 4 s1 at1), (w64 (at1 + n1)), 0)
                         else
                          if s1 == ([93] : Str) then
                           some ((ApiToken.mk 4 s1 at1), (w64 (at1 + n1)), 0)
                          else
                           if s1 == ([123] : Str) then
                            some ((ApiToken.mk 4 s1 at1), (w64 (at1 + n1)), 0)
                           else
                            if s1 == ([125] : Str) then
                             some ((ApiToken.mk 4 s1 at1), (w64 (at1 + n1)), 0)
                            else
                             lexer_operator_l1 src1 at1 kk1 (w64 (x1 + 1))
  else
   some ((ApiToken.mk 0 ([] : Str) 0), 0, 5)

def lexer_operator (src1 : Str) (at1 : Int) : Option (ApiToken × Int × Int) :=
 lexer_operator_l1 src1 at1 BIG 0

def lexer_token (src1 : Str) (at1 : Int) : Option (ApiToken × Int × Int) :=
 bind1 (idx src1 at1) fun c1 =>
 bind1 (lexer_letter c1) fun x1 =>
 if x1 then
  lexer_name src1 at1
 else
  bind1 (lexer_digit c1) fun x5 =>
  if x5 then
   lexer_number src1 at1
  else
   if (c1.toNat : Int) == 34 then
    lexer_text src1 at1
   else
    lexer_operator src1 at1

def lexer_brackets (op1 : Str) (open1 : Int) : Option Int :=
 if op1 == ([40] : Str) then
  some (w64 (open1 + 1))
 else
  if op1 == ([91] : Str) then
   some (w64 (open1 + 1))
  else
   if op1 == ([41] : Str) then
    some (if 0 < (w64 (open1 - 1)) then (w64 (open1 - 1)) else 0)
   else
    if op1 == ([93] : Str) then
     some (if 0 < (w64 (open1 - 1)) then (w64 (open1 - 1)) else 0)
    else
     some open1

def lexer_Tokens_l1 (src1 : Str) : Nat → List ApiToken → Int → Int → Nat → Option (List ApiToken × Int × Int)
 | 0, _, _, _, _ => none
 | kk1 + 1, out1, next1, open1, pos1 =>
  if decide (pos1 < src1.length) then
   bind1 (
     if decide ((pos1 : Int) < next1) then
      some true
     else
      lexer_Tokens_1 ((dec src1 pos1).1 : Int)) fun b1 =>
   if b1 then
    lexer_Tokens_l1 src1 kk1 out1 next1 open1 (pos1 + (dec src1 pos1).2)
   else
    if ((dec src1 pos1).1 : Int) == 35 then
     bind1 (lexer_while src1 (pos1 : Int) lexer_Tokens_2) fun next2 =>
     lexer_Tokens_l1 src1 kk1 out1 next2 open1 (pos1 + (dec src1 pos1).2)
    else
     if ((dec src1 pos1).1 : Int) == 10 then
      bind1 (
        if open1 == 0 then
         if (out1.length : Int) == 0 then
          some true
         else
          bind1 (idx out1 (w64 ((out1.length : Int) - 1))) fun e1 =>
          some (e1.kind != 5)
        else
         some false) fun b2 =>
      if b2 then
       bind1 (app out1 [(ApiToken.mk 5 ([] : Str) (pos1 : Int))]) fun out2 =>
       lexer_Tokens_l1 src1 kk1 out2 next1 open1 (pos1 + (dec src1 pos1).2)
      else
       lexer_Tokens_l1 src1 kk1 out1 next1 open1 (pos1 + (dec src1 pos1).2)
     else
      bind3 (lexer_token src1 (pos1 : Int)) fun x2 end1 e2 =>
      if e2 != 0 then
       some ([], (pos1 : Int), e2)
      else
       if x2.kind == 4 then
        bind1 (lexer_brackets x2.text open1) fun open2 =>
        bind1 (app out1 [x2]) fun out3 =>
        lexer_Tokens_l1 src1 kk1 out3 end1 open2 (pos1 + (dec src1 pos1).2)
       else
        bind1 (app out1 [x2]) fun out4 =>
        lexer_Tokens_l1 src1 kk1 out4 end1 open1 (pos1 + (dec src1 pos1).2)
  else
   some (out1, 0, 0)

def lexer_Tokens (src1 : Str) : Option (List ApiToken × Int × Int) :=
 if decide (65536 < (src1.length : Int)) then
  some ([], 0, 3)
 else
  lexer_Tokens_l1 src1 BIG [] 0 0 0

def parser_letter (c1 : UInt8) : Option Bool :=
 some ((((decide (97 ≤ (c1.toNat : Int))) && (decide ((c1.toNat : Int) ≤ 122))) || ((decide (65 ≤ (c1.toNat : Int))) && (decide ((c1.toNat : Int) ≤ 90)))) || ((c1.toNat : Int) == 95))

def parser_digit (c1 : UInt8) : Option Bool :=
 some ((decide (48 ≤ (c1.toNat : Int))) && (decide ((c1.toNat : Int) ≤ 57)))

def parser_name_l1 (s1 : Str) : Nat → Int → Option Bool
 | 0, _ => none
 | kk1 + 1, i1 =>
  if decide (i1 < (s1.length : Int)) then
   bind1 (idx s1 i1) fun x3 =>
   bind1 (parser_letter x3) fun x4 =>
   bind1 (
     if !x4 then
      bind1 (idx s1 i1) fun x5 =>
      bind1 (parser_digit x5) fun x6 =>
      some (!x6)
     else
      some false) fun b2 =>
   if b2 then
    some false
   else
    parser_name_l1 s1 kk1 (w64 (i1 + 1))
  else
   some true

def parser_name (s1 : Str) : Option Bool :=
 bind1 (
   if (decide ((s1.length : Int) < 1)) || (decide (64 < (s1.length : Int))) then
    some true
   else
    bind1 (idx s1 0) fun x1 =>
    bind1 (parser_letter x1) fun x2 =>
    some (!x2)) fun b1 =>
 if b1 then
  some false
 else
  parser_name_l1 s1 BIG 0

def i_strconv_ParseInt (s1 : Str) (base1 : Int) (bitSize1 : Int) : Option (Int × Option Nat) :=
 if s1 == ([] : Str) then
  some (0, (some 193))
 else
  bind1 (idx s1 0) fun x1 =>
  if (x1.toNat : Int) == 43 then
   bind1 (sl s1 1 (s1.length : Int)) fun s2 =>
   none
  else
   if (x1.toNat : Int) == 45 then
    bind1 (sl s1 1 (s1.length : Int)) fun s3 =>
    none
   else
    none

def i_strconv_Atoi_l1 (s1 : Str) (x3 : List UInt8) : Nat → Int → Int → Option (Int × Option Nat)
 | 0, _, _ => none
 | kk1 + 1, n1, x4 =>
  if decide (x4 < (x3.length : Int)) then
   bind1 (idx x3 x4) fun ch1 =>
   if decide (9 < ((ch1 - 48).toNat : Int)) then
    some (0, (some 193))
   else
    i_strconv_Atoi_l1 s1 x3 kk1 (w64 ((w64 (n1 * 10)) + ((ch1 - 48).toNat : Int))) (w64 (x4 + 1))
  else
   bind1 (idx s1 0) fun x5 =>
   if (x5.toNat : Int) == 45 then
    some ((w64 (0 - n1)), none)
   else
    some (n1, none)

def i_strconv_Atoi_l2 (s1 : Str) (x6 : List UInt8) : Nat → Int → Int → Option (Int × Option Nat)
 | 0, _, _ => none
 | kk2 + 1, n2, x7 =>
  if decide (x7 < (x6.length : Int)) then
   bind1 (idx x6 x7) fun ch2 =>
   if decide (9 < ((ch2 - 48).toNat : Int)) then
    some (0, (some 193))
   else
    i_strconv_Atoi_l2 s1 x6 kk2 (w64 ((w64 (n2 * 10)) + ((ch2 - 48).toNat : Int))) (w64 (x7 + 1))
  else
   bind1 (idx s1 0) fun x8 =>
   if (x8.toNat : Int) == 45 then
    some ((w64 (0 - n2)), none)
   else
    some (n2, none)

def i_strconv_Atoi (s1 : Str) : Option (Int × Option Nat) :=
 if (false && ((decide (0 < (s1.length : Int))) && (decide ((s1.length : Int) < 10)))) || (true && ((decide (0 < (s1.length : Int))) && (decide ((s1.length : Int) < 19)))) then
  bind1 (idx s1 0) fun x1 =>
  bind1 (
    if (x1.toNat : Int) == 45 then
     some true
    else
     bind1 (idx s1 0) fun x2 =>
     some ((x2.toNat : Int) == 43)) fun b1 =>
  if b1 then
   bind1 (sl s1 1 (s1.length : Int)) fun s2 =>
   if decide ((s2.length : Int) < 1) then
    some (0, (some 193))
   else
    bind1 (app ([] : Str) s2) fun x3 =>
    i_strconv_Atoi_l1 s1 x3 BIG 0 0
  else
   bind1 (app ([] : Str) s1) fun x6 =>
   i_strconv_Atoi_l2 s1 x6 BIG 0 0
 else
  i_strconv_ParseInt s1 10 0

def strconv_Atoi (s1 : Str) : Option (Int × Option Nat) :=
 bind2 (i_strconv_Atoi s1) fun x1 err1 =>
 if err1.isSome then
  none
 else
  some (x1, none)

def parser_decimal_l1 (s1 : Str) : Nat → Int → Option Bool
 | 0, _ => none
 | kk1 + 1, i1 =>
  if decide (i1 < (s1.length : Int)) then
   bind1 (idx s1 i1) fun x2 =>
   bind1 (parser_digit x2) fun x3 =>
   if !x3 then
    some false
   else
    parser_decimal_l1 s1 kk1 (w64 (i1 + 1))
  else
   bind2 (strconv_Atoi s1) fun n1 err1 =>
   some ((err1.isNone) && (decide (n1 ≤ 9007199254740992)))

def parser_decimal (s1 : Str) : Option Bool :=
 bind1 (
   if s1 == ([] : Str) then
    some true
   else
    if decide (1 < (s1.length : Int)) then
     bind1 (idx s1 0) fun x1 =>
     some ((x1.toNat : Int) == 48)
    else
     some false) fun b1 =>
 if b1 then
  some false
 else
  parser_decimal_l1 s1 BIG 0

def parser_real (t1 : ApiToken) : Option Bool :=
 if t1.kind == 1 then
  parser_name t1.text
 else
  if t1.kind == 2 then
   parser_decimal t1.text
  else
   if t1.kind == 3 then
    some (decide ((t1.text.length : Int) ≤ 4096))
   else
    if t1.kind == 4 then
     some true
    else
     some false

def parser_reader_peek (rx1 : ParserReader) : Option (ApiToken × ParserReader) :=
 bind1 (
   if decide (rx1.at_ < (rx1.ts.length : Int)) then
    bind1 (idx rx1.ts rx1.at_) fun e1 =>
    parser_real e1
   else
    some false) fun b1 =>
 if b1 then
  bind1 (idx rx1.ts rx1.at_) fun e2 =>
  some (e2, rx1)
 else
  some ((ApiToken.mk 0 ([] : Str) 0), rx1)

def parser_reader_is (rx1 : ParserReader) (op1 : Str) : Option (Bool × ParserReader) :=
 bind2 (parser_reader_peek rx1) fun x1 y1 =>
 some (((x1.kind == 4) && (x1.text == op1)), y1)

def parser_reader_accept (rx1 : ParserReader) (op1 : Str) : Option (Bool × ParserReader) :=
 bind2 (parser_reader_is rx1 op1) fun x1 y1 =>
 if !x1 then
  some (false, y1)
 else
  some (true, (ParserReader.mk y1.ts (w64 (y1.at_ + 1))))

def parser_reader_fail (rx1 : ParserReader) (e1 : Int) : Option (Exc ParserFailure Unit × ParserReader) :=
 some (.bad (ParserFailure.mk rx1.at_ e1), rx1)

def parser_reader_need (rx1 : ParserReader) : Option (Exc ParserFailure ApiToken × ParserReader) :=
 if decide ((rx1.ts.length : Int) ≤ rx1.at_) then
  bindXS (parser_reader_fail rx1 4) (fun e1 y2 => some (.bad e1, y2)) fun _ y1 =>
  bind2 (parser_reader_peek y1) fun x1 y3 =>
  if x1.kind == 0 then
   bindXS (parser_reader_fail y3 5) (fun e2 y5 => some (.bad e2, y5)) fun _ y4 =>
   some (.ok x1, y4)
  else
   some (.ok x1, y3)
 else
  bind2 (parser_reader_peek rx1) fun x2 y6 =>
  if x2.kind == 0 then
   bindXS (parser_reader_fail y6 5) (fun e3 y8 => some (.bad e3, y8)) fun _ y7 =>
   some (.ok x2, y7)
  else
   some (.ok x2, y6)

def parser_literal (v1 : ApiValue) : Option ApiExpr :=
 some (ApiExpr.mk 1 ([] : Str) v1 [] [])

def parser_word (s1 : Str) : Option Bool :=
 some (((s1 == ([116, 114, 117, 101] : Str)) || (s1 == ([102, 97, 108, 115, 101] : Str))) || (s1 == ([110, 117, 108, 108] : Str)))

def parser_reader_expect (rx1 : ParserReader) (op1 : Str) : Option (Exc ParserFailure Unit × ParserReader) :=
 bindXS (parser_reader_need rx1) (fun e1 y2 => some (.bad e1, y2)) fun x1 y1 =>
 bind2 (parser_reader_accept y1 op1) fun x2 y3 =>
 if !x2 then
  bindXS (parser_reader_fail y3 5) (fun e2 y5 => some (.bad e2, y5)) fun _ y4 =>
  some (.ok (), y4)
 else
  some (.ok (), y3)

def parser_strength (op1 : Str) : Option Int :=
 if op1 == ([124, 124] : Str) then
  some 2
 else
  if op1 == ([38, 38] : Str) then
   some 3
  else
   if op1 == ([61, 61] : Str) then
    some 4
   else
    if op1 == ([33, 61] : Str) then
     some 4
    else
     if op1 == ([60] : Str) then
      some 4
     else
      if op1 == ([60, 61] : Str) then
       some 4
      else
       if op1 == ([62] : Str) then
        some 4
       else
        if op1 == ([62, 61] : Str) then
         some 4
        else
         if op1 == ([43] : Str) then
          some 5
         else
          if op1 == ([45] : Str) then
           some 5
          else
           if op1 == ([42] : Str) then
            some 6
           else
            if op1 == ([47] : Str) then
             some 6
            else
             if op1 == ([37] : Str) then
              some 6
             else
              some 0

def parser_reader_condition_b (go_parser_reader_condition : ParserReader → Option (Exc ParserFailure ApiExpr × ParserReader)) (go_parser_reader_operation : ParserReader → Int → Option (Exc ParserFailure ApiExpr × ParserReader)) (go_parser_reader_unary : ParserReader → Option (Exc ParserFailure ApiExpr × ParserReader)) (go_parser_reader_chain : ParserReader → Option (Exc ParserFailure ApiExpr × ParserReader)) (go_parser_reader_atom : ParserReader → Option (Exc ParserFailure ApiExpr × ParserReader)) (go_parser_reader_name : ParserReader → Str → Option (Exc ParserFailure ApiExpr × ParserReader)) (go_parser_reader_args : ParserReader → Str → Option (Exc ParserFailure (List ApiExpr) × ParserReader)) (rx1 : ParserReader) : Option (Exc ParserFailure ApiExpr × ParserReader) :=
 bindXS (go_parser_reader_operation rx1 2) (fun e1 y2 => some (.bad e1, y2)) fun x1 y1 =>
 bind2 (parser_reader_accept y1 ([63] : Str)) fun x2 y3 =>
 if !x2 then
  some (.ok x1, y3)
 else
  bindXS (go_parser_reader_condition y3) (fun e2 y5 => some (.bad e2, y5)) fun x3 y4 =>
  bindXS (parser_reader_expect y4 ([58] : Str)) (fun e3 y7 => some (.bad e3, y7)) fun _ y6 =>
  bindXS (go_parser_reader_condition y6) (fun e4 y9 => some (.bad e4, y9)) fun x4 y8 =>
  some (.ok (ApiExpr.mk 8 ([] : Str) (ApiValue.mk 0 false 0 ([] : Str) [] []) [x1, x3, x4] []), y8)

def parser_reader_operation_l1 (go_parser_reader_operation : ParserReader → Int → Option (Exc ParserFailure ApiExpr × ParserReader)) (n1 : Int) : Nat → ApiExpr → ParserReader → Option (Exc ParserFailure ApiExpr × ParserReader)
 | 0, _, _ => none
 | kk1 + 1, e3, y5 =>
  bind2 (parser_reader_peek y5) fun x3 y6 =>
  bind1 (
    if x3.kind != 4 then
     some true
    else
     bind1 (parser_strength x3.text) fun x4 =>
     some (x4 != n1)) fun b1 =>
  if b1 then
   some (.ok e3, y6)
  else
   bindXS (go_parser_reader_operation (ParserReader.mk y6.ts (w64 (y6.at_ + 1))) (w64 (n1 + 1))) (fun e4 y8 => some (.bad e4, y8)) fun x5 y7 =>
   if n1 == 4 then
    some (.ok (ApiExpr.mk 7 x3.text (ApiValue.mk 0 false 0 ([] : Str) [] []) [e3, x5] []), y7)
   else
    parser_reader_operation_l1 go_parser_reader_operation n1 kk1 (ApiExpr.mk 7 x3.text (ApiValue.mk 0 false 0 ([] : Str) [] []) [e3, x5] []) y7

def parser_reader_operation_b (go_parser_reader_condition : ParserReader → Option (Exc ParserFailure ApiExpr × ParserReader)) (go_parser_reader_operation : ParserReader → Int → Option (Exc ParserFailure ApiExpr × ParserReader)) (go_parser_reader_unary : ParserReader → Option (Exc ParserFailure ApiExpr × ParserReader)) (go_parser_reader_chain : ParserReader → Option (Exc ParserFailure ApiExpr × ParserReader)) (go_parser_reader_atom : ParserReader → Option (Exc ParserFailure ApiExpr × ParserReader)) (go_parser_reader_name : ParserReader → Str → Option (Exc ParserFailure ApiExpr × ParserReader)) (go_parser_reader_args : ParserReader → Str → Option (Exc ParserFailure (List ApiExpr) × ParserReader)) (rx1 : ParserReader) (n1 : Int) : Option (Exc ParserFailure ApiExpr × ParserReader) :=
 if n1 == 7 then
  bindXS (go_parser_reader_unary rx1) (fun e1 y2 => some (.bad e1, y2)) fun x1 y1 =>
  some (.ok x1, y1)
 else
  bindXS (go_parser_reader_operation rx1 (w64 (n1 + 1))) (fun e2 y4 => some (.bad e2, y4)) fun x2 y3 =>
  parser_reader_operation_l1 go_parser_reader_operation n1 BIG x2 y3

def parser_reader_unary_l1 (go_parser_reader_unary : ParserReader → Option (Exc ParserFailure ApiExpr × ParserReader)) (go_parser_reader_chain : ParserReader → Option (Exc ParserFailure ApiExpr × ParserReader)) : Nat → Int → ParserReader → Option (Exc ParserFailure ApiExpr × ParserReader)
 | 0, _, _ => none
 | kk1 + 1, x1, y1 =>
  if decide (x1 < (([([33] : Str), ([45] : Str)] : List Str).length : Int)) then
   bind1 (idx ([([33] : Str), ([45] : Str)] : List Str) x1) fun op1 =>
   bind2 (parser_reader_accept y1 op1) fun x2 y2 =>
   if x2 then
    bindXS (go_parser_reader_unary y2) (fun e1 y4 => some (.bad e1, y4)) fun x3 y3 =>
    some (.ok (ApiExpr.mk 6 op1 (ApiValue.mk 0 false 0 ([] : Str) [] []) [x3] []), y3)
   else
    parser_reader_unary_l1 go_parser_reader_unary go_parser_reader_chain kk1 (w64 (x1 + 1)) y2
  else
   bindXS (go_parser_reader_chain y1) (fun e2 y6 => some (.bad e2, y6)) fun x4 y5 =>
   some (.ok x4, y5)

def parser_reader_unary_b (go_parser_reader_condition : ParserReader → Option (Exc ParserFailure ApiExpr × ParserReader)) (go_parser_reader_operation : ParserReader → Int → Option (Exc ParserFailure ApiExpr × ParserReader)) (go_parser_reader_unary : ParserReader → Option (Exc ParserFailure ApiExpr × ParserReader)) (go_parser_reader_chain : ParserReader → Option (Exc ParserFailure ApiExpr × ParserReader)) (go_parser_reader_atom : ParserReader → Option (Exc ParserFailure ApiExpr × ParserReader)) (go_parser_reader_name : ParserReader → Str → Option (Exc ParserFailure ApiExpr × ParserReader)) (go_parser_reader_args : ParserReader → Str → Option (Exc ParserFailure (List ApiExpr) × ParserReader)) (rx1 : ParserReader) : Option (Exc ParserFailure ApiExpr × ParserReader) :=
 parser_reader_unary_l1 go_parser_reader_unary go_parser_reader_chain BIG 0 rx1

def parser_reader_chain_l1 (go_parser_reader_condition : ParserReader → Option (Exc ParserFailure ApiExpr × ParserReader)) : Nat → ApiExpr → ParserReader → Option (Exc ParserFailure ApiExpr × ParserReader)
 | 0, _, _ => none
 | kk1 + 1, e2, y3 =>
  bind2 (parser_reader_accept y3 ([46] : Str)) fun x2 y4 =>
  if x2 then
   bindXS (parser_reader_need y4) (fun e3 y6 => some (.bad e3, y6)) fun x3 y5 =>
   bind1 (
     if x3.kind != 1 then
      some true
     else
      parser_word x3.text) fun b1 =>
   if b1 then
    bindXS (parser_reader_fail y5 5) (fun e4 y8 => some (.bad e4, y8)) fun _ y7 =>
    parser_reader_chain_l1 go_parser_reader_condition kk1 (ApiExpr.mk 3 x3.text (ApiValue.mk 0 false 0 ([] : Str) [] []) [e2] []) (ParserReader.mk y7.ts (w64 (y7.at_ + 1)))
   else
    parser_reader_chain_l1 go_parser_reader_condition kk1 (ApiExpr.mk 3 x3.text (ApiValue.mk 0 false 0 ([] : Str) [] []) [e2] []) (ParserReader.mk y5.ts (w64 (y5.at_ + 1)))
  else
   bind2 (parser_reader_accept y4 ([91] : Str)) fun x5 y9 =>
   if x5 then
    bindXS (go_parser_reader_condition y9) (fun e5 y11 => some (.bad e5, y11)) fun x6 y10 =>
    bindXS (parser_reader_expect y10 ([93] : Str)) (fun e6 y13 => some (.bad e6, y13)) fun _ y12 =>
    parser_reader_chain_l1 go_parser_reader_condition kk1 (ApiExpr.mk 4 ([] : Str) (ApiValue.mk 0 false 0 ([] : Str) [] []) [e2, x6] []) y12
   else
    some (.ok e2, y9)

def parser_reader_chain_b (go_parser_reader_condition : ParserReader → Option (Exc ParserFailure ApiExpr × ParserReader)) (go_parser_reader_operation : ParserReader → Int → Option (Exc ParserFailure ApiExpr × ParserReader)) (go_parser_reader_unary : ParserReader → Option (Exc ParserFailure ApiExpr × ParserReader)) (go_parser_reader_chain : ParserReader → Option (Exc ParserFailure ApiExpr × ParserReader)) (go_parser_reader_atom : ParserReader → Option (Exc ParserFailure ApiExpr × ParserReader)) (go_parser_reader_name : ParserReader → Str → Option (Exc ParserFailure ApiExpr × ParserReader)) (go_parser_reader_args : ParserReader → Str → Option (Exc ParserFailure (List ApiExpr) × ParserReader)) (rx1 : ParserReader) : Option (Exc ParserFailure ApiExpr × ParserReader) :=
 bindXS (go_parser_reader_atom rx1) (fun e1 y2 => some (.bad e1, y2)) fun x1 y1 =>
 parser_reader_chain_l1 go_parser_reader_condition BIG x1 y1

def parser_reader_atom_b (go_parser_reader_condition : ParserReader → Option (Exc ParserFailure ApiExpr × ParserReader)) (go_parser_reader_operation : ParserReader → Int → Option (Exc ParserFailure ApiExpr × ParserReader)) (go_parser_reader_unary : ParserReader → Option (Exc ParserFailure ApiExpr × ParserReader)) (go_parser_reader_chain : ParserReader → Option (Exc ParserFailure ApiExpr × ParserReader)) (go_parser_reader_atom : ParserReader → Option (Exc ParserFailure ApiExpr × ParserReader)) (go_parser_reader_name : ParserReader → Str → Option (Exc ParserFailure ApiExpr × ParserReader)) (go_parser_reader_args : ParserReader → Str → Option (Exc ParserFailure (List ApiExpr) × ParserReader)) (rx1 : ParserReader) : Option (Exc ParserFailure ApiExpr × ParserReader) :=
 bindXS (parser_reader_need rx1) (fun e1 y2 => some (.bad e1, y2)) fun x1 y1 =>
 if x1.kind == 2 then
  bind2 (strconv_Atoi x1.text) fun n1 x2 =>
  bind1 (parser_literal (ApiValue.mk 2 false n1 ([] : Str) [] [])) fun x3 =>
  some (.ok x3, (ParserReader.mk y1.ts (w64 (y1.at_ + 1))))
 else
  if x1.kind == 3 then
   bind1 (parser_literal (ApiValue.mk 3 false 0 x1.text [] [])) fun x4 =>
   some (.ok x4, (ParserReader.mk y1.ts (w64 (y1.at_ + 1))))
  else
   if x1.kind == 1 then
    bindXS (go_parser_reader_name (ParserReader.mk y1.ts (w64 (y1.at_ + 1))) x1.text) (fun e2 y4 => some (.bad e2, y4)) fun x5 y3 =>
    some (.ok x5, y3)
   else
    bind2 (parser_reader_accept y1 ([40] : Str)) fun x6 y5 =>
    if x6 then
     bindXS (go_parser_reader_condition y5) (fun e3 y7 => some (.bad e3, y7)) fun x7 y6 =>
     bindXS (parser_reader_expect y6 ([41] : Str)) (fun e4 y9 => some (.bad e4, y9)) fun _ y8 =>
     some (.ok x7, y8)
    else
     bind2 (parser_reader_accept y5 ([91] : Str)) fun x8 y10 =>
     if x8 then
      bindXS (go_parser_reader_args y10 ([93] : Str)) (fun e5 y12 => some (.bad e5, y12)) fun x9 y11 =>
      some (.ok (ApiExpr.mk 9 ([] : Str) (ApiValue.mk 0 false 0 ([] : Str) [] []) x9 []), y11)
     else
      bind2 (parser_reader_accept y10 ([123] : Str)) fun x10 y13 =>
      if x10 then
       none
      else
       bindXS (parser_reader_fail y13 5) (fun e6 y15 => some (.bad e6, y15)) fun _ y14 =>
       some (.ok (ApiExpr.mk 0 ([] : Str) (ApiValue.mk 0 false 0 ([] : Str) [] []) [] []), y14)

def parser_reader_name_b (go_parser_reader_condition : ParserReader → Option (Exc ParserFailure ApiExpr × ParserReader)) (go_parser_reader_operation : ParserReader → Int → Option (Exc ParserFailure ApiExpr × ParserReader)) (go_parser_reader_unary : ParserReader → Option (Exc ParserFailure ApiExpr × ParserReader)) (go_parser_reader_chain : ParserReader → Option (Exc ParserFailure ApiExpr × ParserReader)) (go_parser_reader_atom : ParserReader → Option (Exc ParserFailure ApiExpr × ParserReader)) (go_parser_reader_name : ParserReader → Str → Option (Exc ParserFailure ApiExpr × ParserReader)) (go_parser_reader_args : ParserReader → Str → Option (Exc ParserFailure (List ApiExpr) × ParserReader)) (rx1 : ParserReader) (s1 : Str) : Option (Exc ParserFailure ApiExpr × ParserReader) :=
 if s1 == ([110, 117, 108, 108] : Str) then
  bind1 (parser_literal (ApiValue.mk 0 false 0 ([] : Str) [] [])) fun x1 =>
  some (.ok x1, rx1)
 else
  bind1 (parser_word s1) fun x2 =>
  if x2 then
   bind1 (parser_literal (ApiValue.mk 1 (s1 == ([116, 114, 117, 101] : Str)) 0 ([] : Str) [] [])) fun x3 =>
   some (.ok x3, rx1)
  else
   bind2 (parser_reader_accept rx1 ([40] : Str)) fun x4 y1 =>
   if x4 then
    bindXS (go_parser_reader_args y1 ([41] : Str)) (fun e1 y3 => some (.bad e1, y3)) fun x5 y2 =>
    some (.ok (ApiExpr.mk 5 s1 (ApiValue.mk 0 false 0 ([] : Str) [] []) x5 []), y2)
   else
    some (.ok (ApiExpr.mk 2 s1 (ApiValue.mk 0 false 0 ([] : Str) [] []) [] []), y1)

def parser_reader_args_l1 (go_parser_reader_condition : ParserReader → Option (Exc ParserFailure ApiExpr × ParserReader)) (end1 : Str) : Nat → List ApiExpr → ParserReader → Option (Exc ParserFailure (List ApiExpr) × ParserReader)
 | 0, _, _ => none
 | kk1 + 1, out1, y2 =>
  bindXS (go_parser_reader_condition y2) (fun e1 y4 => some (.bad e1, y4)) fun x2 y3 =>
  bind1 (app out1 [x2]) fun out2 =>
  bind2 (parser_reader_accept y3 ([44] : Str)) fun x3 y5 =>
  if !x3 then
   bindXS (parser_reader_expect y5 end1) (fun e2 y7 => some (.bad e2, y7)) fun _ y6 =>
   some (.ok out2, y6)
  else
   parser_reader_args_l1 go_parser_reader_condition end1 kk1 out2 y5

def parser_reader_args_b (go_parser_reader_condition : ParserReader → Option (Exc ParserFailure ApiExpr × ParserReader)) (go_parser_reader_operation : ParserReader → Int → Option (Exc ParserFailure ApiExpr × ParserReader)) (go_parser_reader_unary : ParserReader → Option (Exc ParserFailure ApiExpr × ParserReader)) (go_parser_reader_chain : ParserReader → Option (Exc ParserFailure ApiExpr × ParserReader)) (go_parser_reader_atom : ParserReader → Option (Exc ParserFailure ApiExpr × ParserReader)) (go_parser_reader_name : ParserReader → Str → Option (Exc ParserFailure ApiExpr × ParserReader)) (go_parser_reader_args : ParserReader → Str → Option (Exc ParserFailure (List ApiExpr) × ParserReader)) (rx1 : ParserReader) (end1 : Str) : Option (Exc ParserFailure (List ApiExpr) × ParserReader) :=
 bind2 (parser_reader_accept rx1 end1) fun x1 y1 =>
 if x1 then
  some (.ok [], y1)
 else
  parser_reader_args_l1 go_parser_reader_condition end1 BIG [] y1

mutual
def parser_reader_condition_n : Nat → ParserReader → Option (Exc ParserFailure ApiExpr × ParserReader)
 | 0, _ => none
 | k + 1, urx1 => parser_reader_condition_b (parser_reader_condition_n k) (parser_reader_operation_n k) (parser_reader_unary_n k) (parser_reader_chain_n k) (parser_reader_atom_n k) (parser_reader_name_n k) (parser_reader_args_n k) urx1
def parser_reader_operation_n : Nat → ParserReader → Int → Option (Exc ParserFailure ApiExpr × ParserReader)
 | 0, _, _ => none
 | k + 1, urx1, un1 => parser_reader_operation_b (parser_reader_condition_n k) (parser_reader_operation_n k) (parser_reader_unary_n k) (parser_reader_chain_n k) (parser_reader_atom_n k) (parser_reader_name_n k) (parser_reader_args_n k) urx1 un1
def parser_reader_unary_n : Nat → ParserReader → Option (Exc ParserFailure ApiExpr × ParserReader)
 | 0, _ => none
 | k + 1, urx1 => parser_reader_unary_b (parser_reader_condition_n k) (parser_reader_operation_n k) (parser_reader_unary_n k) (parser_reader_chain_n k) (parser_reader_atom_n k) (parser_reader_name_n k) (parser_reader_args_n k) urx1
def parser_reader_chain_n : Nat → ParserReader → Option (Exc ParserFailure ApiExpr × ParserReader)
 | 0, _ => none
 | k + 1, urx1 => parser_reader_chain_b (parser_reader_condition_n k) (parser_reader_operation_n k) (parser_reader_unary_n k) (parser_reader_chain_n k) (parser_reader_atom_n k) (parser_reader_name_n k) (parser_reader_args_n k) urx1
def parser_reader_atom_n : Nat → ParserReader → Option (Exc ParserFailure ApiExpr × ParserReader)
 | 0, _ => none
 | k + 1, urx1 => parser_reader_atom_b (parser_reader_condition_n k) (parser_reader_operation_n k) (parser_reader_unary_n k) (parser_reader_chain_n k) (parser_reader_atom_n k) (parser_reader_name_n k) (parser_reader_args_n k) urx1
def parser_reader_name_n : Nat → ParserReader → Str → Option (Exc ParserFailure ApiExpr × ParserReader)
 | 0, _, _ => none
 | k + 1, urx1, us1 => parser_reader_name_b (parser_reader_condition_n k) (parser_reader_operation_n k) (parser_reader_unary_n k) (parser_reader_chain_n k) (parser_reader_atom_n k) (parser_reader_name_n k) (parser_reader_args_n k) urx1 us1
def parser_reader_args_n : Nat → ParserReader → Str → Option (Exc ParserFailure (List ApiExpr) × ParserReader)
 | 0, _, _ => none
 | k + 1, urx1, uend1 => parser_reader_args_b (parser_reader_condition_n k) (parser_reader_operation_n k) (parser_reader_unary_n k) (parser_reader_chain_n k) (parser_reader_atom_n k) (parser_reader_name_n k) (parser_reader_args_n k) urx1 uend1
end

def parser_reader_condition (urx1 : ParserReader) : Option (Exc ParserFailure ApiExpr × ParserReader) := parser_reader_condition_n BIG urx1

def parser_reader_operation (urx1 : ParserReader) (un1 : Int) : Option (Exc ParserFailure ApiExpr × ParserReader) := parser_reader_operation_n BIG urx1 un1

def parser_reader_unary (urx1 : ParserReader) : Option (Exc ParserFailure ApiExpr × ParserReader) := parser_reader_unary_n BIG urx1

def parser_reader_chain (urx1 : ParserReader) : Option (Exc ParserFailure ApiExpr × ParserReader) := parser_reader_chain_n BIG urx1

def parser_reader_atom (urx1 : ParserReader) : Option (Exc ParserFailure ApiExpr × ParserReader) := parser_reader_atom_n BIG urx1

def parser_reader_name (urx1 : ParserReader) (us1 : Str) : Option (Exc ParserFailure ApiExpr × ParserReader) := parser_reader_name_n BIG urx1 us1

def parser_reader_args (urx1 : ParserReader) (uend1 : Str) : Option (Exc ParserFailure (List ApiExpr) × ParserReader) := parser_reader_args_n BIG urx1 uend1

def parser_read (ts1 : List ApiToken) : Option (ApiExpr × Int × Int) :=
 bindXS (parser_reader_condition (ParserReader.mk ts1 0)) (fun f1 _ => some ((ApiExpr.mk 0 ([] : Str) (ApiValue.mk 0 false 0 ([] : Str) [] []) [] []), f1.at_, f1.code)) fun e1 r1 =>
 some (e1, r1.at_, 0)

def parser_Count_l1 (go_parser_Count : ApiExpr → Option Int) (e1 : ApiExpr) : Nat → Int → Int → Option Int
 | 0, _, _ => none
 | kk1 + 1, n1, x1 =>
  if decide (x1 < (e1.args.length : Int)) then
   bind1 (idx e1.args x1) fun e2 =>
   bind1 (go_parser_Count e2) fun x2 =>
   parser_Count_l1 go_parser_Count e1 kk1 (w64 (n1 + x2)) (w64 (x1 + 1))
  else
   some n1

def parser_Count_b (go_parser_Count : ApiExpr → Option Int) (e1 : ApiExpr) : Option Int :=
 parser_Count_l1 go_parser_Count e1 BIG 1 0

def parser_Count_n : Nat → ApiExpr → Option Int
 | 0, _ => none
 | k + 1, ue1 => parser_Count_b (parser_Count_n k) ue1

def parser_Count (ue1 : ApiExpr) : Option Int := parser_Count_n BIG ue1

def parser_zero (v1 : ApiValue) : Option Bool :=
 some ((((((v1.kind == 0) && (!v1.bool_)) && (v1.int_ == 0)) && (v1.str_ == ([] : Str))) && ((v1.list_.length : Int) == 0)) && ((v1.keys.length : Int) == 0))

def parser_plain (s1 : Str) : Option Bool :=
 bind1 (parser_name s1) fun x1 =>
 if x1 then
  bind1 (parser_word s1) fun x2 =>
  some (!x2)
 else
  some false

def parser_named (e1 : ApiExpr) : Option Bool :=
 if e1.kind == 2 then
  parser_plain e1.name
 else
  if e1.kind == 3 then
   parser_plain e1.name
  else
   if e1.kind == 5 then
    parser_plain e1.name
   else
    if e1.kind == 6 then
     some ((e1.name == ([33] : Str)) || (e1.name == ([45] : Str)))
    else
     if e1.kind == 7 then
      bind1 (parser_strength e1.name) fun x4 =>
      some (decide (0 < x4))
     else
      some (e1.name == ([] : Str))

def parser_arity (e1 : ApiExpr) : Option Bool :=
 if e1.kind == 1 then
  some ((e1.args.length : Int) == 0)
 else
  if e1.kind == 2 then
   some ((e1.args.length : Int) == 0)
  else
   if e1.kind == 3 then
    some ((e1.args.length : Int) == 1)
   else
    if e1.kind == 6 then
     some ((e1.args.length : Int) == 1)
    else
     if e1.kind == 4 then
      some ((e1.args.length : Int) == 2)
     else
      if e1.kind == 7 then
       some ((e1.args.length : Int) == 2)
      else
       if e1.kind == 8 then
        some ((e1.args.length : Int) == 3)
       else
        some true

def slices_IndexFunc_L_string_string_l1 (s1 : List Str) (f1 : Str → Option Bool) : Nat → Int → Option Int
 | 0, _ => none
 | kk1 + 1, i1 =>
  if decide (i1 < (s1.length : Int)) then
   bind1 (idx s1 i1) fun e1 =>
   bind1 (f1 e1) fun x1 =>
   if x1 then
    some i1
   else
    slices_IndexFunc_L_string_string_l1 s1 f1 kk1 (w64 (i1 + 1))
  else
   some (-1)

def slices_IndexFunc_L_string_string (s1 : List Str) (f1 : Str → Option Bool) : Option Int :=
 slices_IndexFunc_L_string_string_l1 s1 f1 BIG 0

def slices_ContainsFunc_L_string_string (s1 : List Str) (f1 : Str → Option Bool) : Option Bool :=
 bind1 (slices_IndexFunc_L_string_string s1 f1) fun x1 =>
 some (decide (0 ≤ x1))

def parser_keyed_1 (kx1 : Str) : Option Bool :=
 some ((decide ((kx1.length : Int) < 1)) || (decide (64 < (kx1.length : Int))))

def parser_keyed (e1 : ApiExpr) : Option Bool :=
 if e1.kind != 10 then
  some ((e1.keys.length : Int) == 0)
 else
  if (e1.keys.length : Int) == (e1.args.length : Int) then
   bind1 (slices_ContainsFunc_L_string_string e1.keys parser_keyed_1) fun x1 =>
   some (!x1)
  else
   some false

def value_walk_l1 {β : Type} (go : β → ApiValue → Int → Option (Bool × β)) (v1 : ApiValue) (level1 : Int) : Nat → β → Int → Option (Bool × β)
 | 0, _, _ => none
 | kk1 + 1, s1, i1 =>
  if decide (i1 < (v1.list_.length : Int)) then
   bind1 (idx v1.list_ i1) fun x1 =>
   bind2 (go s1 x1 (w64 (level1 + 1))) fun b1 s2 =>
   if !b1 then
    some (false, s2)
   else
    value_walk_l1 go v1 level1 kk1 s2 (w64 (i1 + 1))
  else
   some (true, s1)

def value_walk_b {β : Type} (go : β → ApiValue → Int → Option (Bool × β)) (y : β → Int → ApiValue → Option (Bool × β)) (s1 : β) (v1 : ApiValue) (level1 : Int) : Option (Bool × β) :=
 bind2 (y s1 level1 v1) fun b1 s2 =>
 if !b1 then
  some (false, s2)
 else
  value_walk_l1 go v1 level1 BIG s2 0

def value_walk_n {β : Type} (y : β → Int → ApiValue → Option (Bool × β)) : Nat → β → ApiValue → Int → Option (Bool × β)
 | 0, _, _, _ => none
 | k + 1, s1, v1, level1 => value_walk_b (value_walk_n y k) y s1 v1 level1

def value_walk {β : Type} (y : β → Int → ApiValue → Option (Bool × β)) (s1 : β) (v1 : ApiValue) (level1 : Int) : Option (Bool × β) := value_walk_n y BIG s1 v1 level1

def value_unused (v1 : ApiValue) : Option Bool :=
 some ((((((v1.kind == 1) || (!v1.bool_)) && ((v1.kind == 2) || (v1.int_ == 0))) && ((v1.kind == 3) || (v1.str_ == ([] : Str)))) && (((v1.kind == 4) || (v1.kind == 5)) || ((v1.list_.length : Int) == 0))) && ((v1.kind == 5) || ((v1.keys.length : Int) == 0)))

def ident_digit (c1 : UInt8) : Option Bool :=
 some ((decide (48 ≤ (c1.toNat : Int))) && (decide ((c1.toNat : Int) ≤ 57)))

def ident_run_l1 (s1 : Str) : Nat → Int → Option Int
 | 0, _ => none
 | kk1 + 1, n1 =>
  bind1 (
    if decide (n1 < (s1.length : Int)) then
     bind1 (idx s1 n1) fun x1 =>
     ident_digit x1
    else
     some false) fun b1 =>
  if b1 then
   ident_run_l1 s1 kk1 (w64 (n1 + 1))
  else
   some n1

def ident_run (s1 : Str) : Option Int :=
 ident_run_l1 s1 BIG 0

def strings_trimLeftByte_l1 (c1 : UInt8) : Nat → Str → Option Str
 | 0, _ => none
 | kk1 + 1, s2 =>
  bind1 (
    if decide (0 < (s2.length : Int)) then
     bind1 (idx s2 0) fun x1 =>
     some ((x1.toNat : Int) == (c1.toNat : Int))
    else
     some false) fun b1 =>
  if b1 then
   bind1 (sl s2 1 (s2.length : Int)) fun s3 =>
   strings_trimLeftByte_l1 c1 kk1 s3
  else
   some s2

def strings_trimLeftByte (s1 : Str) (c1 : UInt8) : Option Str :=
 strings_trimLeftByte_l1 c1 BIG s1

def strings_TrimLeft (s1 : Str) (cutset1 : Str) : Option Str :=
 if (s1 == ([] : Str)) || (cutset1 == ([] : Str)) then
  some s1
 else
  bind1 (
    if (cutset1.length : Int) == 1 then
     bind1 (idx cutset1 0) fun x1 =>
     some (decide ((x1.toNat : Int) < 128))
    else
     some false) fun b1 =>
  if b1 then
   bind1 (idx cutset1 0) fun x2 =>
   strings_trimLeftByte s1 x2
  else
   none

def cmp_isNaN_int (x1 : Int) : Option Bool :=
 some (x1 != x1)

def cmp_Compare_int (x1 : Int) (y1 : Int) : Option Int :=
 bind1 (cmp_isNaN_int x1) fun xNaN1 =>
 bind1 (cmp_isNaN_int y1) fun yNaN1 =>
 if xNaN1 then
  if yNaN1 then
   some 0
  else
   some (-1)
 else
  if yNaN1 then
   some 1
  else
   if decide (x1 < y1) then
    some (-1)
   else
    if decide (y1 < x1) then
     some 1
    else
     some 0

def cmp_isNaN_string (x1 : Str) : Option Bool :=
 some (!(x1 == x1))

def cmp_Compare_string (x1 : Str) (y1 : Str) : Option Int :=
 bind1 (cmp_isNaN_string x1) fun xNaN1 =>
 bind1 (cmp_isNaN_string y1) fun yNaN1 =>
 if xNaN1 then
  if yNaN1 then
   some 0
  else
   some (-1)
 else
  if yNaN1 then
   some 1
  else
   if Go.Op.bytesLess x1 y1 then
    some (-1)
   else
    if !(Go.Op.bytesLess x1 y1 || x1 == y1) then
     some 1
    else
     some 0

def cmp_Or_int_l1 (vals1 : List Int) : Nat → Int → Option Int
 | 0, _ => none
 | kk1 + 1, x1 =>
  if decide (x1 < (vals1.length : Int)) then
   bind1 (idx vals1 x1) fun val1 =>
   if val1 != 0 then
    some val1
   else
    cmp_Or_int_l1 vals1 kk1 (w64 (x1 + 1))
  else
   some 0

def cmp_Or_int (vals1 : List Int) : Option Int :=
 cmp_Or_int_l1 vals1 BIG 0

def ident_numbers (a1 : Str) (b1 : Str) : Option Int :=
 bind1 (strings_TrimLeft a1 ([48] : Str)) fun x1 =>
 bind1 (strings_TrimLeft b1 ([48] : Str)) fun y1 =>
 bind1 (cmp_Compare_int (x1.length : Int) (y1.length : Int)) fun x2 =>
 bind1 (cmp_Compare_string x1 y1) fun x3 =>
 bind1 (cmp_Compare_int (a1.length : Int) (b1.length : Int)) fun x4 =>
 cmp_Or_int ([x2, x3, x4] : List Int)

def cmp_isNaN_byte (x1 : UInt8) : Option Bool :=
 some ((x1.toNat : Int) != (x1.toNat : Int))

def cmp_Compare_byte (x1 : UInt8) (y1 : UInt8) : Option Int :=
 bind1 (cmp_isNaN_byte x1) fun xNaN1 =>
 bind1 (cmp_isNaN_byte y1) fun yNaN1 =>
 if xNaN1 then
  if yNaN1 then
   some 0
  else
   some (-1)
 else
  if yNaN1 then
   some 1
  else
   if decide ((x1.toNat : Int) < (y1.toNat : Int)) then
    some (-1)
   else
    if decide ((y1.toNat : Int) < (x1.toNat : Int)) then
     some 1
    else
     some 0

def ident_Compare_l1  : Nat → Str → Str → Option Int
 | 0, _, _ => none
 | kk1 + 1, a2, b2 =>
  if (!(a2 == ([] : Str))) && (!(b2 == ([] : Str))) then
   bind1 (ident_run a2) fun n1 =>
   bind1 (ident_run b2) fun m1 =>
   if (decide (0 < n1)) && (decide (0 < m1)) then
    bind1 (sl a2 0 n1) fun x1 =>
    bind1 (sl b2 0 m1) fun x2 =>
    bind1 (ident_numbers x1 x2) fun c1 =>
    if c1 != 0 then
     some c1
    else
     bind1 (sl a2 n1 (a2.length : Int)) fun a3 =>
     bind1 (sl b2 m1 (b2.length : Int)) fun b3 =>
     ident_Compare_l1 kk1 a3 b3
   else
    bind1 (idx a2 0) fun x3 =>
    bind1 (idx b2 0) fun x4 =>
    if (x3.toNat : Int) != (x4.toNat : Int) then
     bind1 (idx a2 0) fun x5 =>
     bind1 (idx b2 0) fun x6 =>
     cmp_Compare_byte x5 x6
    else
     bind1 (sl a2 1 (a2.length : Int)) fun a4 =>
     bind1 (sl b2 1 (b2.length : Int)) fun b4 =>
     ident_Compare_l1 kk1 a4 b4
  else
   cmp_Compare_int (a2.length : Int) (b2.length : Int)

def ident_Compare (a1 : Str) (b1 : Str) : Option Int :=
 ident_Compare_l1 BIG a1 b1

def value_keyed_l1 (v1 : ApiValue) : Nat → Int → Option Bool
 | 0, _ => none
 | kk1 + 1, i1 =>
  if decide (i1 < (v1.keys.length : Int)) then
   bind1 (idx v1.keys i1) fun kx1 =>
   bind1 (
     if (decide ((kx1.length : Int) < 1)) || (decide (64 < (kx1.length : Int))) then
      some true
     else
      if decide (0 < i1) then
       bind1 (idx v1.keys (w64 (i1 - 1))) fun e1 =>
       bind1 (ident_Compare e1 kx1) fun x1 =>
       some (decide (0 ≤ x1))
      else
       some false) fun b1 =>
   if b1 then
    some false
   else
    value_keyed_l1 v1 kk1 (w64 (i1 + 1))
  else
   some true

def value_keyed (v1 : ApiValue) : Option Bool :=
 if (v1.keys.length : Int) != (v1.list_.length : Int) then
  some false
 else
  value_keyed_l1 v1 BIG 0

def value_node (v1 : ApiValue) (level1 : Int) : Option Int :=
 if decide (16 < level1) then
  some 13
 else
  bind1 (
    if (decide (v1.kind < 0)) || (decide (5 < v1.kind)) then
     some true
    else
     bind1 (value_unused v1) fun x1 =>
     some (!x1)) fun b1 =>
  if b1 then
   some 1
  else
   if (decide (v1.int_ < (-9007199254740992))) || (decide (9007199254740992 < v1.int_)) then
    some 2
   else
    if ((decide (4096 < (v1.str_.length : Int))) || (decide (1024 < (v1.list_.length : Int)))) || (decide (1024 < (v1.keys.length : Int))) then
     some 3
    else
     bind1 (
       if v1.kind == 5 then
        bind1 (value_keyed v1) fun x2 =>
        some (!x2)
       else
        some false) fun b2 =>
     if b2 then
      some 1
     else
      if (((v1.kind == 4) || (v1.kind == 5)) && ((v1.list_.length : Int) == 0)) && (level1 == 16) then
       some 13
      else
       some 0

def value_Valid_y (s1 : Option Int) (level1 : Int) (x1 : ApiValue) : Option (Bool × Option Int) :=
 match s1 with
 | some _ => none
 | none =>
  bind1 (value_node x1 level1) fun e1 =>
  if !(e1 == 0) then
   some (false, some e1)
  else
   some (true, none)

def value_Valid (v1 : ApiValue) : Option Int :=
 bind2 (value_walk value_Valid_y none v1 1) fun _ s1 =>
 some (s1.getD 0)

def parser_repeated_l1 (l1 : List Str) : Nat → Int → List (Str × Int) → Option Bool
 | 0, _, _ => none
 | kk1 + 1, x1, y1 =>
  if decide (x1 < (l1.length : Int)) then
   bind1 (idx l1 x1) fun s1 =>
   if decide (1 < (mget (mset y1 s1 (w64 ((mget y1 s1) + 1))) s1)) then
    some true
   else
    parser_repeated_l1 l1 kk1 (w64 (x1 + 1)) (mset y1 s1 (w64 ((mget y1 s1) + 1)))
  else
   some false

def parser_repeated (l1 : List Str) : Option Bool :=
 parser_repeated_l1 l1 BIG 0 []

def parser_node (e1 : ApiExpr) (level1 : Int) : Option Int :=
 if decide (16 < level1) then
  some 13
 else
  bind1 (
    if (decide (e1.kind < 1)) || (decide (10 < e1.kind)) then
     some true
    else
     if e1.kind != 1 then
      bind1 (parser_zero e1.value) fun x1 =>
      some (!x1)
     else
      some false) fun b1 =>
  bind1 (
    if b1 then
     some true
    else
     bind1 (parser_named e1) fun x2 =>
     some (!x2)) fun b3 =>
  bind1 (
    if b3 then
     some true
    else
     bind1 (parser_arity e1) fun x3 =>
     some (!x3)) fun b4 =>
  bind1 (
    if b4 then
     some true
    else
     bind1 (parser_keyed e1) fun x4 =>
     some (!x4)) fun b5 =>
  if b5 then
   some 1
  else
   bind1 (
     if e1.kind == 1 then
      bind1 (value_Valid e1.value) fun x5 =>
      some (x5 != 0)
     else
      some false) fun b6 =>
   if b6 then
    value_Valid e1.value
   else
    if decide (1024 < (e1.args.length : Int)) then
     some 3
    else
     bind1 (parser_repeated e1.keys) fun x7 =>
     if x7 then
      some 7
     else
      some 0

def parser_valid_l1 (go_parser_valid : ApiExpr → Int → Option Int) (e1 : ApiExpr) (level1 : Int) : Nat → Int → Option Int
 | 0, _ => none
 | kk1 + 1, x1 =>
  if decide (x1 < (e1.args.length : Int)) then
   bind1 (idx e1.args x1) fun e2 =>
   bind1 (go_parser_valid e2 (w64 (level1 + 1))) fun f2 =>
   if f2 != 0 then
    some f2
   else
    parser_valid_l1 go_parser_valid e1 level1 kk1 (w64 (x1 + 1))
  else
   some 0

def parser_valid_b (go_parser_valid : ApiExpr → Int → Option Int) (e1 : ApiExpr) (level1 : Int) : Option Int :=
 bind1 (parser_node e1 level1) fun f1 =>
 if f1 != 0 then
  some f1
 else
  parser_valid_l1 go_parser_valid e1 level1 BIG 0

def parser_valid_n : Nat → ApiExpr → Int → Option Int
 | 0, _, _ => none
 | k + 1, ue1, ulevel1 => parser_valid_b (parser_valid_n k) ue1 ulevel1

def parser_valid (ue1 : ApiExpr) (ulevel1 : Int) : Option Int := parser_valid_n BIG ue1 ulevel1

def parser_Valid (e1 : ApiExpr) : Option Int :=
 bind1 (parser_Count e1) fun x1 =>
 if decide (4096 < x1) then
  some 15
 else
  parser_valid e1 1

def parser_Take (ts1 : List ApiToken) : Option (ApiExpr × Int × Int) :=
 bind3 (parser_read ts1) fun x1 n1 code1 =>
 if code1 != 0 then
  some ((ApiExpr.mk 0 ([] : Str) (ApiValue.mk 0 false 0 ([] : Str) [] []) [] []), n1, code1)
 else
  bind1 (parser_Valid x1) fun code2 =>
  if code2 != 0 then
   some ((ApiExpr.mk 0 ([] : Str) (ApiValue.mk 0 false 0 ([] : Str) [] []) [] []), 0, code2)
  else
   some (x1, n1, 0)

def parser_place (ts1 : List ApiToken) (n1 : Int) (src1 : Str) : Option Int :=
 if decide (n1 < (ts1.length : Int)) then
  bind1 (idx ts1 n1) fun e1 =>
  some e1.at_
 else
  some (src1.length : Int)

def parser_Parse (src1 : Str) : Option (ApiExpr × Int × Int) :=
 bind3 (lexer_Tokens src1) fun ts1 at1 code1 =>
 if code1 != 0 then
  some ((ApiExpr.mk 0 ([] : Str) (ApiValue.mk 0 false 0 ([] : Str) [] []) [] []), at1, code1)
 else
  bind3 (parser_Take ts1) fun x1 n1 code2 =>
  if code2 != 0 then
   bind1 (parser_place ts1 n1 src1) fun x2 =>
   some ((ApiExpr.mk 0 ([] : Str) (ApiValue.mk 0 false 0 ([] : Str) [] []) [] []), x2, code2)
  else
   if decide (n1 < (ts1.length : Int)) then
    bind1 (idx ts1 n1) fun e1 =>
    some ((ApiExpr.mk 0 ([] : Str) (ApiValue.mk 0 false 0 ([] : Str) [] []) [] []), e1.at_, 5)
   else
    some (x1, 0, 0)

def typing_name (kind1 : Int) : Option Str :=
 if (decide (kind1 < 0)) || (decide (8 ≤ kind1)) then
  some ([] : Str)
 else
  idx ([([97, 110, 121] : Str), ([110, 117, 108, 108] : Str), ([98, 111, 111, 108] : Str), ([105, 110, 116] : Str), ([115, 116, 114, 105, 110, 103] : Str), ([108, 105, 115, 116] : Str), ([109, 97, 112] : Str), ([110, 101, 118, 101, 114] : Str)] : List Str) kind1

def typing_nested (kind1 : Int) : Option Bool :=
 some ((kind1 == 5) || (kind1 == 6))

def typing_Valid_l1  : Nat → Int → ApiType → Option Int
 | 0, _, _ => none
 | kk1 + 1, level1, t2 =>
  if decide (16 < level1) then
   some 13
  else
   bind1 (typing_name t2.kind) fun x1 =>
   bind1 (
     if x1 == ([] : Str) then
      some true
     else
      bind1 (typing_nested t2.kind) fun x2 =>
      some (x2 && ((t2.elem.length : Int) != 1))) fun b1 =>
   bind1 (
     if b1 then
      some true
     else
      bind1 (typing_nested t2.kind) fun x3 =>
      some ((!x3) && ((t2.elem.length : Int) != 0))) fun b2 =>
   if b2 then
    some 1
   else
    bind1 (typing_nested t2.kind) fun x4 =>
    if !x4 then
     some 0
    else
     bind1 (idx t2.elem 0) fun e1 =>
     typing_Valid_l1 kk1 (w64 (level1 + 1)) e1

def typing_Valid (t1 : ApiType) : Option Int :=
 typing_Valid_l1 BIG 1 t1

def check_Env_l1 (env1 : List ApiDecl) : Nat → Int → List (Str × Int) → Option Int
 | 0, _, _ => none
 | kk1 + 1, x1, y1 =>
  if decide (x1 < (env1.length : Int)) then
   bind1 (idx env1 x1) fun e1 =>
   bind1 (parser_Valid (ApiExpr.mk 2 e1.name (ApiValue.mk 0 false 0 ([] : Str) [] []) [] [])) fun x2 =>
   if x2 != 0 then
    some 1
   else
    bind1 (typing_Valid e1.type_) fun e2 =>
    if e2 != 0 then
     some e2
    else
     if decide (1 < (mget (mset y1 e1.name (w64 ((mget y1 e1.name) + 1))) e1.name)) then
      some 7
     else
      check_Env_l1 env1 kk1 (w64 (x1 + 1)) (mset y1 e1.name (w64 ((mget y1 e1.name) + 1)))
  else
   some 0

def check_Env (env1 : List ApiDecl) : Option Int :=
 if decide (1024 < (env1.length : Int)) then
  some 3
 else
  check_Env_l1 env1 BIG 0 []

def check_of (kind1 : Int) : Option ApiType :=
 some (ApiType.mk kind1 [])

def check_nested (kind1 : Int) (elem1 : ApiType) : Option ApiType :=
 some (ApiType.mk kind1 [elem1])

def check_signatures (name1 : Str) : Option (List (List ApiType) × ApiType) :=
 bind1 (check_of 0) fun x1 =>
 bind1 (check_of 3) fun x2 =>
 bind1 (check_of 4) fun x3 =>
 bind1 (check_of 2) fun x4 =>
 bind1 (check_nested 5 x1) fun x5 =>
 bind1 (check_nested 6 x1) fun x6 =>
 bind1 (check_nested 5 x3) fun x7 =>
 if name1 == ([108, 101, 110] : Str) then
  some ([[x3], [x5], [x6]], x2)
 else
  if name1 == ([99, 111, 110, 116, 97, 105, 110, 115] : Str) then
   some ([[x5, x1], [x3, x3], [x6, x3]], x4)
  else
   if name1 == ([106, 111, 105, 110] : Str) then
    some ([[x7, x3]], x3)
   else
    if name1 == ([115, 116, 114, 105, 110, 103] : Str) then
     bind1 (check_of 1) fun x8 =>
     some ([[x8], [x4], [x2], [x3]], x3)
    else
     if name1 == ([108, 111, 119, 101, 114] : Str) then
      some ([[x3]], x3)
     else
      if name1 == ([117, 112, 112, 101, 114] : Str) then
       some ([[x3]], x3)
      else
       if name1 == ([115, 112, 108, 105, 116] : Str) then
        some ([[x3, x3]], x7)
       else
        if name1 == ([115, 116, 97, 114, 116, 115, 119, 105, 116, 104] : Str) then
         some ([[x3, x3]], x4)
        else
         if name1 == ([101, 110, 100, 115, 119, 105, 116, 104] : Str) then
          some ([[x3, x3]], x4)
         else
          if name1 == ([105, 110, 116] : Str) then
           some ([[x3]], x2)
          else
           if name1 == ([100, 101, 102, 97, 117, 108, 116] : Str) then
            some ([[x1, x1]], x1)
           else
            if name1 == ([107, 101, 121, 115] : Str) then
             some ([[x6]], x7)
            else
             some ([], x1)

def check_loose (t1 : ApiType) : Option Bool :=
 some ((t1.kind == 0) || (t1.kind == 7))

def check_compatible_b (go_check_compatible : ApiType → ApiType → Option Bool) (t1 : ApiType) (u1 : ApiType) : Option Bool :=
 bind1 (check_loose t1) fun x1 =>
 if x1 || (u1.kind == 0) then
  some true
 else
  if t1.kind != u1.kind then
   some false
  else
   if ((t1.elem.length : Int) == 1) && ((u1.elem.length : Int) == 1) then
    bind1 (idx t1.elem 0) fun e1 =>
    bind1 (idx u1.elem 0) fun e2 =>
    go_check_compatible e1 e2
   else
    some true

def check_compatible_n : Nat → ApiType → ApiType → Option Bool
 | 0, _, _ => none
 | k + 1, ut1, uu1 => check_compatible_b (check_compatible_n k) ut1 uu1

def check_compatible (ut1 : ApiType) (uu1 : ApiType) : Option Bool := check_compatible_n BIG ut1 uu1

def check_suits_l1 (ts1 : List ApiType) (want1 : List ApiType) : Nat → Int → Option Bool
 | 0, _ => none
 | kk1 + 1, i1 =>
  if decide (i1 < (want1.length : Int)) then
   bind1 (idx ts1 i1) fun e1 =>
   bind1 (idx want1 i1) fun e2 =>
   bind1 (check_compatible e1 e2) fun x1 =>
   if !x1 then
    some false
   else
    check_suits_l1 ts1 want1 kk1 (w64 (i1 + 1))
  else
   some true

def check_suits (ts1 : List ApiType) (want1 : List ApiType) : Option Bool :=
 check_suits_l1 ts1 want1 BIG 0

def typing_scalar (kind1 : Int) : Option ApiType :=
 some (ApiType.mk kind1 [])

def typing_of (kind1 : Int) (elem1 : ApiType) : Option ApiType :=
 some (ApiType.mk kind1 [elem1])

def typing_clone_b (go_typing_clone : ApiType → Option ApiType) (t1 : ApiType) : Option ApiType :=
 bind1 (typing_nested t1.kind) fun x1 =>
 if !x1 then
  typing_scalar t1.kind
 else
  bind1 (idx t1.elem 0) fun e1 =>
  bind1 (go_typing_clone e1) fun x3 =>
  typing_of t1.kind x3

def typing_clone_n : Nat → ApiType → Option ApiType
 | 0, _ => none
 | k + 1, ut1 => typing_clone_b (typing_clone_n k) ut1

def typing_clone (ut1 : ApiType) : Option ApiType := typing_clone_n BIG ut1

def typing_join_b (go_typing_join : ApiType → ApiType → Option ApiType) (a1 : ApiType) (b1 : ApiType) : Option ApiType :=
 if a1.kind == 7 then
  typing_clone b1
 else
  if b1.kind == 7 then
   typing_clone a1
  else
   if a1.kind != b1.kind then
    typing_scalar 0
   else
    bind1 (typing_nested a1.kind) fun x4 =>
    if x4 then
     bind1 (idx a1.elem 0) fun e1 =>
     bind1 (idx b1.elem 0) fun e2 =>
     bind1 (go_typing_join e1 e2) fun x5 =>
     typing_of a1.kind x5
    else
     typing_scalar a1.kind

def typing_join_n : Nat → ApiType → ApiType → Option ApiType
 | 0, _, _ => none
 | k + 1, ua1, ub1 => typing_join_b (typing_join_n k) ua1 ub1

def typing_join (ua1 : ApiType) (ub1 : ApiType) : Option ApiType := typing_join_n BIG ua1 ub1

def typing_find_l1 (go_typing_find : ApiValue → Option ApiType) (v1 : ApiValue) : Nat → Int → ApiType → Option ApiType
 | 0, _, _ => none
 | kk1 + 1, x6, elem1 =>
  if decide (x6 < (v1.list_.length : Int)) then
   bind1 (idx v1.list_ x6) fun e1 =>
   bind1 (go_typing_find e1) fun x7 =>
   bind1 (typing_join elem1 x7) fun x8 =>
   typing_find_l1 go_typing_find v1 kk1 (w64 (x6 + 1)) x8
  else
   if v1.kind == 4 then
    typing_of 5 elem1
   else
    typing_of 6 elem1

def typing_find_b (go_typing_find : ApiValue → Option ApiType) (v1 : ApiValue) : Option ApiType :=
 if v1.kind == 0 then
  typing_scalar 1
 else
  if v1.kind == 1 then
   typing_scalar 2
  else
   if v1.kind == 2 then
    typing_scalar 3
   else
    if v1.kind == 3 then
     typing_scalar 4
    else
     bind1 (typing_scalar 7) fun x5 =>
     typing_find_l1 go_typing_find v1 BIG 0 x5

def typing_find_n : Nat → ApiValue → Option ApiType
 | 0, _ => none
 | k + 1, uv1 => typing_find_b (typing_find_n k) uv1

def typing_find (uv1 : ApiValue) : Option ApiType := typing_find_n BIG uv1

def typing_Of (v1 : ApiValue) : Option ApiType :=
 bind1 (value_Valid v1) fun x1 =>
 if x1 != 0 then
  typing_scalar 0
 else
  typing_find v1

def check_declared_l1 (env1 : List ApiDecl) (name1 : Str) : Nat → Int → Option (ApiType × Int)
 | 0, _ => none
 | kk1 + 1, x1 =>
  if decide (x1 < (env1.length : Int)) then
   bind1 (idx env1 x1) fun e1 =>
   if e1.name == name1 then
    some (e1.type_, 0)
   else
    check_declared_l1 env1 name1 kk1 (w64 (x1 + 1))
  else
   some ((ApiType.mk 0 []), 10)

def check_declared (env1 : List ApiDecl) (name1 : Str) : Option (ApiType × Int) :=
 check_declared_l1 env1 name1 BIG 0

def check_member (t1 : ApiType) : Option (ApiType × Int) :=
 bind1 (check_loose t1) fun x1 =>
 if x1 then
  some (t1, 0)
 else
  if t1.kind == 6 then
   bind1 (idx t1.elem 0) fun e1 =>
   some (e1, 0)
  else
   some ((ApiType.mk 0 []), 9)

def check_index (t1 : ApiType) (i1 : ApiType) : Option (ApiType × Int) :=
 bind1 (check_of 3) fun x1 =>
 bind1 (check_compatible i1 x1) fun number1 =>
 bind1 (check_of 4) fun x2 =>
 bind1 (check_compatible i1 x2) fun text1 =>
 if (t1.kind == 5) && number1 then
  bind1 (idx t1.elem 0) fun e1 =>
  some (e1, 0)
 else
  if (t1.kind == 6) && text1 then
   bind1 (idx t1.elem 0) fun e2 =>
   some (e2, 0)
  else
   bind1 (check_loose t1) fun x3 =>
   if x3 && (number1 || text1) then
    some (t1, 0)
   else
    some ((ApiType.mk 0 []), 9)

def check_unary (op1 : Str) (t1 : ApiType) : Option (ApiType × Int) :=
 bind1 (check_of 3) fun x1 =>
 if op1 == ([33] : Str) then
  bind1 (check_of 2) fun x2 =>
  bind1 (check_compatible t1 x2) fun x3 =>
  if !x3 then
   some ((ApiType.mk 0 []), 9)
  else
   some (x2, 0)
 else
  bind1 (check_compatible t1 x1) fun x4 =>
  if !x4 then
   some ((ApiType.mk 0 []), 9)
  else
   some (x1, 0)

def check_binary_1 (kind1 : Int) (c1 : ApiType) (c2 : ApiType) : Option Bool :=
 bind1 (check_of kind1) fun x1 =>
 bind1 (check_compatible c1 x1) fun x2 =>
 if x2 then
  bind1 (check_of kind1) fun x3 =>
  check_compatible c2 x3
 else
  some false

def check_common (a1 : ApiType) (b1 : ApiType) (kind1 : Int) : Option Bool :=
 bind1 (check_loose a1) fun x1 =>
 bind1 (
   if x1 || (a1.kind == kind1) then
    bind1 (check_loose b1) fun x2 =>
    some (x2 || (b1.kind == kind1))
   else
    some false) fun b2 =>
 some (b2 && ((a1.kind == kind1) || (b1.kind == kind1)))

def check_element (t1 : ApiType) : Option ApiType :=
 bind1 (check_loose t1) fun x1 =>
 if x1 then
  some t1
 else
  idx t1.elem 0

def typing_both (a1 : ApiType) (b1 : ApiType) : Option Bool :=
 bind1 (typing_Valid a1) fun x1 =>
 if x1 == 0 then
  bind1 (typing_Valid b1) fun x2 =>
  some (x2 == 0)
 else
  some false

def typing_Join (a1 : ApiType) (b1 : ApiType) : Option ApiType :=
 bind1 (typing_both a1 b1) fun x1 =>
 if !x1 then
  typing_scalar 0
 else
  typing_join a1 b1

def check_sum (a1 : ApiType) (b1 : ApiType) : Option (ApiType × Int) :=
 bind1 (check_loose a1) fun x1 =>
 bind1 (
   if x1 then
    check_loose b1
   else
    some false) fun b2 =>
 if b2 then
  if (a1.kind == 0) || (b1.kind == 0) then
   bind1 (check_of 0) fun x3 =>
   some (x3, 0)
  else
   bind1 (check_of 7) fun x4 =>
   some (x4, 0)
 else
  bind1 (check_common a1 b1 3) fun x5 =>
  if x5 then
   bind1 (check_of 3) fun x6 =>
   some (x6, 0)
  else
   bind1 (check_common a1 b1 4) fun x7 =>
   if x7 then
    bind1 (check_of 4) fun x8 =>
    some (x8, 0)
   else
    bind1 (check_common a1 b1 5) fun x9 =>
    if x9 then
     bind1 (check_element a1) fun x10 =>
     bind1 (check_element b1) fun x11 =>
     bind1 (typing_Join x10 x11) fun x12 =>
     bind1 (check_nested 5 x12) fun x13 =>
     some (x13, 0)
    else
     some ((ApiType.mk 0 []), 9)

def check_binary (op1 : Str) (a1 : ApiType) (b1 : ApiType) : Option (ApiType × Int) :=
 if op1 == ([38, 38] : Str) then
  bind1 (check_binary_1 2 a1 b1) fun x1 =>
  if x1 then
   bind1 (check_of 2) fun x2 =>
   some (x2, 0)
  else
   some ((ApiType.mk 0 []), 9)
 else
  if op1 == ([124, 124] : Str) then
   bind1 (check_binary_1 2 a1 b1) fun x3 =>
   if x3 then
    bind1 (check_of 2) fun x4 =>
    some (x4, 0)
   else
    some ((ApiType.mk 0 []), 9)
  else
   if op1 == ([61, 61] : Str) then
    bind1 (check_of 2) fun x5 =>
    some (x5, 0)
   else
    if op1 == ([33, 61] : Str) then
     bind1 (check_of 2) fun x6 =>
     some (x6, 0)
    else
     if op1 == ([60] : Str) then
      bind1 (check_loose a1) fun x7 =>
      bind1 (
        if x7 then
         check_loose b1
        else
         some false) fun b2 =>
      bind1 (
        if b2 then
         some true
        else
         check_common a1 b1 3) fun b3 =>
      bind1 (
        if b3 then
         some true
        else
         check_common a1 b1 4) fun b4 =>
      if b4 then
       bind1 (check_of 2) fun x11 =>
       some (x11, 0)
      else
       some ((ApiType.mk 0 []), 9)
     else
      if op1 == ([60, 61] : Str) then
       bind1 (check_loose a1) fun x12 =>
       bind1 (
         if x12 then
          check_loose b1
         else
          some false) fun b5 =>
       bind1 (
         if b5 then
          some true
         else
          check_common a1 b1 3) fun b6 =>
       bind1 (
         if b6 then
          some true
         else
          check_common a1 b1 4) fun b7 =>
       if b7 then
        bind1 (check_of 2) fun x16 =>
        some (x16, 0)
       else
        some ((ApiType.mk 0 []), 9)
      else
       if op1 == ([62] : Str) then
        bind1 (check_loose a1) fun x17 =>
        bind1 (
          if x17 then
           check_loose b1
          else
           some false) fun b8 =>
        bind1 (
          if b8 then
           some true
          else
           check_common a1 b1 3) fun b9 =>
        bind1 (
          if b9 then
           some true
          else
           check_common a1 b1 4) fun b10 =>
        if b10 then
         bind1 (check_of 2) fun x21 =>
         some (x21, 0)
        else
         some ((ApiType.mk 0 []), 9)
       else
        if op1 == ([62, 61] : Str) then
         bind1 (check_loose a1) fun x22 =>
         bind1 (
           if x22 then
            check_loose b1
           else
            some false) fun b11 =>
         bind1 (
           if b11 then
            some true
           else
            check_common a1 b1 3) fun b12 =>
         bind1 (
           if b12 then
            some true
           else
            check_common a1 b1 4) fun b13 =>
         if b13 then
          bind1 (check_of 2) fun x26 =>
          some (x26, 0)
         else
          some ((ApiType.mk 0 []), 9)
        else
         if op1 == ([45] : Str) then
          bind1 (check_binary_1 3 a1 b1) fun x27 =>
          if x27 then
           bind1 (check_of 3) fun x28 =>
           some (x28, 0)
          else
           some ((ApiType.mk 0 []), 9)
         else
          if op1 == ([42] : Str) then
           bind1 (check_binary_1 3 a1 b1) fun x29 =>
           if x29 then
            bind1 (check_of 3) fun x30 =>
            some (x30, 0)
           else
            some ((ApiType.mk 0 []), 9)
          else
           if op1 == ([47] : Str) then
            bind1 (check_binary_1 3 a1 b1) fun x31 =>
            if x31 then
             bind1 (check_of 3) fun x32 =>
             some (x32, 0)
            else
             some ((ApiType.mk 0 []), 9)
           else
            if op1 == ([37] : Str) then
             bind1 (check_binary_1 3 a1 b1) fun x33 =>
             if x33 then
              bind1 (check_of 3) fun x34 =>
              some (x34, 0)
             else
              some ((ApiType.mk 0 []), 9)
            else
             if op1 == ([43] : Str) then
              check_sum a1 b1
             else
              some ((ApiType.mk 0 []), 9)

def check_gathered_l1 (kind1 : Int) (ts1 : List ApiType) : Nat → Int → ApiType → Option (ApiType × Int)
 | 0, _, _ => none
 | kk1 + 1, x2, elem1 =>
  if decide (x2 < (ts1.length : Int)) then
   bind1 (idx ts1 x2) fun e1 =>
   bind1 (typing_Join elem1 e1) fun x3 =>
   check_gathered_l1 kind1 ts1 kk1 (w64 (x2 + 1)) x3
  else
   bind1 (check_nested kind1 elem1) fun x4 =>
   bind1 (typing_Valid x4) fun x5 =>
   if x5 != 0 then
    some ((ApiType.mk 0 []), 13)
   else
    some (x4, 0)

def check_gathered (kind1 : Int) (ts1 : List ApiType) : Option (ApiType × Int) :=
 bind1 (check_of 7) fun x1 =>
 check_gathered_l1 kind1 ts1 BIG 0 x1

def check_find_b (go_check_find : ApiExpr → List ApiDecl → Option (ApiType × Int)) (go_check_call : ApiExpr → List ApiDecl → Option (ApiType × Int)) (go_check_all : List ApiExpr → List ApiDecl → Option (List ApiType × Int)) (e1 : ApiExpr) (env1 : List ApiDecl) : Option (ApiType × Int) :=
 if e1.kind == 5 then
  go_check_call e1 env1
 else
  bind2 (go_check_all e1.args env1) fun ts1 f1 =>
  if f1 != 0 then
   some ((ApiType.mk 0 []), f1)
  else
   if e1.kind == 1 then
    bind1 (typing_Of e1.value) fun x3 =>
    some (x3, 0)
   else
    if e1.kind == 2 then
     check_declared env1 e1.name
    else
     if e1.kind == 3 then
      bind1 (idx ts1 0) fun e2 =>
      check_member e2
     else
      if e1.kind == 4 then
       bind1 (idx ts1 0) fun e3 =>
       bind1 (idx ts1 1) fun e4 =>
       check_index e3 e4
      else
       if e1.kind == 6 then
        bind1 (idx ts1 0) fun e5 =>
        check_unary e1.name e5
       else
        if e1.kind == 7 then
         bind1 (idx ts1 0) fun e6 =>
         bind1 (idx ts1 1) fun e7 =>
         check_binary e1.name e6 e7
        else
         if e1.kind == 8 then
          bind1 (idx ts1 0) fun e8 =>
          bind1 (check_of 2) fun x14 =>
          bind1 (check_compatible e8 x14) fun x15 =>
          if !x15 then
           some ((ApiType.mk 0 []), 9)
          else
           bind1 (idx ts1 1) fun e9 =>
           bind1 (idx ts1 2) fun e10 =>
           bind1 (typing_Join e9 e10) fun x16 =>
           some (x16, 0)
         else
          if e1.kind == 9 then
           check_gathered 5 ts1
          else
           check_gathered 6 ts1

def check_call_l1 (e1 : ApiExpr) (alternatives1 : List (List ApiType)) (x1 : ApiType) (ts1 : List ApiType) : Nat → Int → Option (ApiType × Int)
 | 0, _ => none
 | kk1 + 1, x2 =>
  if decide (x2 < (alternatives1.length : Int)) then
   bind1 (idx alternatives1 x2) fun want1 =>
   bind1 (check_suits ts1 want1) fun x3 =>
   if !x3 then
    check_call_l1 e1 alternatives1 x1 ts1 kk1 (w64 (x2 + 1))
   else
    if !(e1.name == ([100, 101, 102, 97, 117, 108, 116] : Str)) then
     some (x1, 0)
    else
     bind1 (idx ts1 0) fun e3 =>
     if e3.kind == 1 then
      bind1 (idx ts1 1) fun e4 =>
      some (e4, 0)
     else
      bind1 (idx ts1 0) fun e5 =>
      some (e5, 0)
  else
   some ((ApiType.mk 0 []), 9)

def check_call_b (go_check_find : ApiExpr → List ApiDecl → Option (ApiType × Int)) (go_check_call : ApiExpr → List ApiDecl → Option (ApiType × Int)) (go_check_all : List ApiExpr → List ApiDecl → Option (List ApiType × Int)) (e1 : ApiExpr) (env1 : List ApiDecl) : Option (ApiType × Int) :=
 bind2 (check_signatures e1.name) fun alternatives1 x1 =>
 if (alternatives1.length : Int) == 0 then
  some ((ApiType.mk 0 []), 10)
 else
  bind1 (idx alternatives1 0) fun e2 =>
  if (e1.args.length : Int) != (e2.length : Int) then
   some ((ApiType.mk 0 []), 1)
  else
   bind2 (go_check_all e1.args env1) fun ts1 f1 =>
   if f1 != 0 then
    some ((ApiType.mk 0 []), f1)
   else
    check_call_l1 e1 alternatives1 x1 ts1 BIG 0

def check_all_l1 (go_check_find : ApiExpr → List ApiDecl → Option (ApiType × Int)) (l1 : List ApiExpr) (env1 : List ApiDecl) : Nat → List ApiType → Int → Option (List ApiType × Int)
 | 0, _, _ => none
 | kk1 + 1, out1, x1 =>
  if decide (x1 < (l1.length : Int)) then
   bind1 (idx l1 x1) fun e1 =>
   bind2 (go_check_find e1 env1) fun x2 f1 =>
   if f1 != 0 then
    some ([], f1)
   else
    bind1 (app out1 [x2]) fun out2 =>
    check_all_l1 go_check_find l1 env1 kk1 out2 (w64 (x1 + 1))
  else
   some (out1, 0)

def check_all_b (go_check_find : ApiExpr → List ApiDecl → Option (ApiType × Int)) (go_check_call : ApiExpr → List ApiDecl → Option (ApiType × Int)) (go_check_all : List ApiExpr → List ApiDecl → Option (List ApiType × Int)) (l1 : List ApiExpr) (env1 : List ApiDecl) : Option (List ApiType × Int) :=
 check_all_l1 go_check_find l1 env1 BIG [] 0

mutual
def check_find_n : Nat → ApiExpr → List ApiDecl → Option (ApiType × Int)
 | 0, _, _ => none
 | k + 1, ue1, uenv1 => check_find_b (check_find_n k) (check_call_n k) (check_all_n k) ue1 uenv1
def check_call_n : Nat → ApiExpr → List ApiDecl → Option (ApiType × Int)
 | 0, _, _ => none
 | k + 1, ue1, uenv1 => check_call_b (check_find_n k) (check_call_n k) (check_all_n k) ue1 uenv1
def check_all_n : Nat → List ApiExpr → List ApiDecl → Option (List ApiType × Int)
 | 0, _, _ => none
 | k + 1, ul1, uenv1 => check_all_b (check_find_n k) (check_call_n k) (check_all_n k) ul1 uenv1
end

def check_find (ue1 : ApiExpr) (uenv1 : List ApiDecl) : Option (ApiType × Int) := check_find_n BIG ue1 uenv1

def check_call (ue1 : ApiExpr) (uenv1 : List ApiDecl) : Option (ApiType × Int) := check_call_n BIG ue1 uenv1

def check_all (ul1 : List ApiExpr) (uenv1 : List ApiDecl) : Option (List ApiType × Int) := check_all_n BIG ul1 uenv1

def check_Expr (e1 : ApiExpr) (env1 : List ApiDecl) : Option (ApiType × Int) :=
 bind1 (check_Env env1) fun f1 =>
 if f1 != 0 then
  some ((ApiType.mk 0 []), f1)
 else
  bind1 (parser_Valid e1) fun f2 =>
  if f2 != 0 then
   some ((ApiType.mk 0 []), f2)
  else
   bind2 (check_find e1 env1) fun x1 f3 =>
   if f3 != 0 then
    some ((ApiType.mk 0 []), f3)
   else
    bind1 (check_of 7) fun x2 =>
    bind1 (typing_Join x1 x2) fun x3 =>
    some (x3, 0)

def typing_Show_l1  : Nat → Str → Str → ApiType → Option Str
 | 0, _, _, _ => none
 | kk1 + 1, s1, end1, t2 =>
  bind1 (typing_nested t2.kind) fun x2 =>
  if x2 then
   bind1 (typing_name t2.kind) fun x3 =>
   bind1 (app x3 ([40] : Str)) fun x4 =>
   bind1 (app s1 x4) fun s2 =>
   bind1 (app end1 ([41] : Str)) fun end2 =>
   bind1 (idx t2.elem 0) fun e1 =>
   typing_Show_l1 kk1 s2 end2 e1
  else
   bind1 (typing_name t2.kind) fun x5 =>
   bind1 (app s1 x5) fun x6 =>
   app x6 end1

def typing_Show (t1 : ApiType) : Option Str :=
 bind1 (typing_Valid t1) fun x1 =>
 if x1 != 0 then
  some ([] : Str)
 else
  typing_Show_l1 BIG ([] : Str) ([] : Str) t1

def l11_text (src1 : Str) (env1 : List ApiDecl) : Option (Str × Int) :=
 bind3 (parser_Parse src1) fun x1 x2 f1 =>
 if f1 != 0 then
  some (([] : Str), f1)
 else
  bind2 (check_Expr x1 env1) fun x3 f2 =>
  if f2 != 0 then
   some (([] : Str), f2)
  else
   bind1 (typing_Show x3) fun x4 =>
   some (x4, f2)

def l11_awake  : Option Bool :=
 bind1 (app ([34] : List UInt8) ([97] : Str)) fun x1 =>
 bind1 (app x1 ([34] : List UInt8)) fun a1 =>
 bind1 (app ([110, 32, 43, 32, 49, 32, 62, 32, 50, 32, 38, 38, 32, 33, 40, 110, 32, 61, 61, 32] : Str) a1) fun x2 =>
 bind1 (app x2 ([41] : Str)) fun x3 =>
 bind2 (l11_text x3 [(ApiDecl.mk ([110] : Str) (ApiType.mk 3 [])), (ApiDecl.mk ([120] : Str) (ApiType.mk 2 []))]) fun s1 e1 =>
 bind1 (app ([91, 49, 44, 32] : Str) a1) fun x4 =>
 bind1 (app x4 ([93] : Str)) fun x5 =>
 bind2 (l11_text x5 [(ApiDecl.mk ([110] : Str) (ApiType.mk 3 [])), (ApiDecl.mk ([120] : Str) (ApiType.mk 2 []))]) fun t1 f1 =>
 bind1 (app ([91, 49, 44, 32] : Str) a1) fun x6 =>
 bind1 (app x6 ([93, 91, 48, 93, 32, 43, 32, 49] : Str)) fun x7 =>
 bind2 (l11_text x7 [(ApiDecl.mk ([110] : Str) (ApiType.mk 3 [])), (ApiDecl.mk ([120] : Str) (ApiType.mk 2 []))]) fun u1 g1 =>
 bind1 (app ([110, 32, 43, 32] : Str) a1) fun x8 =>
 bind2 (l11_text x8 [(ApiDecl.mk ([110] : Str) (ApiType.mk 3 [])), (ApiDecl.mk ([120] : Str) (ApiType.mk 2 []))]) fun x9 hx1 =>
 bind2 (l11_text ([121] : Str) [(ApiDecl.mk ([110] : Str) (ApiType.mk 3 [])), (ApiDecl.mk ([120] : Str) (ApiType.mk 2 []))]) fun x10 kx1 =>
 bind1 (app ([120, 32, 63, 32, 49, 32, 58, 32] : Str) a1) fun x11 =>
 bind2 (l11_text x11 [(ApiDecl.mk ([110] : Str) (ApiType.mk 3 [])), (ApiDecl.mk ([120] : Str) (ApiType.mk 2 []))]) fun v1 m1 =>
 if (((((((((s1 == ([98, 111, 111, 108] : Str)) && (e1 == 0)) && (t1 == ([108, 105, 115, 116, 40, 97, 110, 121, 41] : Str))) && (f1 == 0)) && (u1 == ([105, 110, 116] : Str))) && (g1 == 0)) && (hx1 == 9)) && (kx1 == 10)) && (v1 == ([97, 110, 121] : Str))) && (m1 == 0) then
  bind1 (check_Env [(ApiDecl.mk ([110] : Str) (ApiType.mk 3 [])), (ApiDecl.mk ([120] : Str) (ApiType.mk 2 []))]) fun x12 =>
  some (x12 == 0)
 else
  some false

def ident_Sorted (names1 : List Str) : Option (List Str) :=
 if (names1.all fun s => decide (s.length < 4611686018427387904)) && decide (names1.length ≤ LIM) then some (natSet names1) else none

def check_Names_1_l1 (go : ApiExpr → List Str → Option (List Str)) (e1 : ApiExpr) : Nat → List Str → Int → Option (List Str)
 | 0, _, _ => none
 | kk1 + 1, out1, i1 =>
  if decide (i1 < (e1.args.length : Int)) then
   bind1 (idx e1.args i1) fun a1 =>
   bind1 (go a1 out1) fun out2 =>
   check_Names_1_l1 go e1 kk1 out2 (w64 (i1 + 1))
  else
   some out1

def check_Names_1_b (go : ApiExpr → List Str → Option (List Str)) (e1 : ApiExpr) (out1 : List Str) : Option (List Str) :=
 if e1.kind == 2 then
  bind1 (app out1 [e1.name]) fun out2 =>
  check_Names_1_l1 go e1 BIG out2 0
 else
  check_Names_1_l1 go e1 BIG out1 0

def check_Names_1_n : Nat → ApiExpr → List Str → Option (List Str)
 | 0, _, _ => none
 | k + 1, e1, out1 => check_Names_1_b (check_Names_1_n k) e1 out1

def check_Names (e1 : ApiExpr) : Option (List Str) :=
 bind1 (check_Names_1_n BIG e1 []) fun out1 =>
 ident_Sorted out1

def r04_order (less1 : Bool) (greater1 : Bool) : Option Int :=
 if less1 then
  some (-1)
 else
  if greater1 then
   some 1
  else
   some 0

def r04_digit (c1 : UInt8) : Option Bool :=
 some ((decide (48 ≤ (c1.toNat : Int))) && (decide ((c1.toNat : Int) ≤ 57)))

def r04_run_l1 (s1 : Str) : Nat → Int → Option Int
 | 0, _ => none
 | kk1 + 1, at2 =>
  bind1 (
    if decide (at2 < (s1.length : Int)) then
     bind1 (idx s1 at2) fun x1 =>
     r04_digit x1
    else
     some false) fun b1 =>
  if b1 then
   r04_run_l1 s1 kk1 (w64 (at2 + 1))
  else
   some at2

def r04_run (s1 : Str) (at1 : Int) : Option Int :=
 r04_run_l1 s1 BIG at1

def r04_strip_l1 (s1 : Str) : Nat → Int → Option Str
 | 0, _ => none
 | kk1 + 1, i1 =>
  bind1 (
    if decide (i1 < (s1.length : Int)) then
     bind1 (idx s1 i1) fun x1 =>
     some ((x1.toNat : Int) == 48)
    else
     some false) fun b1 =>
  if b1 then
   r04_strip_l1 s1 kk1 (w64 (i1 + 1))
  else
   sl s1 i1 (s1.length : Int)

def r04_strip (s1 : Str) : Option Str :=
 r04_strip_l1 s1 BIG 0

def r04_runs (a1 : Str) (b1 : Str) : Option Int :=
 bind1 (r04_strip a1) fun x1 =>
 bind1 (r04_strip b1) fun y1 =>
 if (x1.length : Int) != (y1.length : Int) then
  r04_order (decide ((x1.length : Int) < (y1.length : Int))) (decide ((y1.length : Int) < (x1.length : Int)))
 else
  if !(x1 == y1) then
   r04_order (Go.Op.bytesLess x1 y1) (!(Go.Op.bytesLess x1 y1 || x1 == y1))
  else
   r04_order (decide ((a1.length : Int) < (b1.length : Int))) (decide ((b1.length : Int) < (a1.length : Int)))

def r04_Compare_l1 (a1 : Str) (b1 : Str) : Nat → Int → Int → Option Int
 | 0, _, _ => none
 | kk1 + 1, i1, kx1 =>
  if (decide (i1 < (a1.length : Int))) && (decide (kx1 < (b1.length : Int))) then
   bind1 (idx a1 i1) fun x1 =>
   bind1 (idx b1 kx1) fun x2 =>
   bind1 (idx a1 i1) fun x3 =>
   bind1 (idx b1 kx1) fun x4 =>
   bind1 (r04_order (decide ((x1.toNat : Int) < (x2.toNat : Int))) (decide ((x4.toNat : Int) < (x3.toNat : Int)))) fun c1 =>
   bind1 (idx a1 i1) fun x5 =>
   bind1 (r04_digit x5) fun x6 =>
   bind1 (
     if x6 then
      bind1 (idx b1 kx1) fun x7 =>
      r04_digit x7
     else
      some false) fun b2 =>
   if b2 then
    bind1 (r04_run a1 i1) fun m1 =>
    bind1 (r04_run b1 kx1) fun n1 =>
    bind1 (sl a1 i1 m1) fun x9 =>
    bind1 (sl b1 kx1 n1) fun x10 =>
    bind1 (r04_runs x9 x10) fun c2 =>
    if c2 != 0 then
     some c2
    else
     r04_Compare_l1 a1 b1 kk1 m1 n1
   else
    if c1 != 0 then
     some c1
    else
     r04_Compare_l1 a1 b1 kk1 (w64 (i1 + 1)) (w64 (kx1 + 1))
  else
   r04_order (decide (kx1 < (b1.length : Int))) (decide (i1 < (a1.length : Int)))

def r04_Compare (a1 : Str) (b1 : Str) : Option Int :=
 r04_Compare_l1 a1 b1 BIG 0 0

def r09_letter (c1 : UInt8) : Option Bool :=
 some ((((decide (97 ≤ (c1.toNat : Int))) && (decide ((c1.toNat : Int) ≤ 122))) || ((decide (65 ≤ (c1.toNat : Int))) && (decide ((c1.toNat : Int) ≤ 90)))) || ((c1.toNat : Int) == 95))

def r09_digit (c1 : UInt8) : Option Bool :=
 some ((decide (48 ≤ (c1.toNat : Int))) && (decide ((c1.toNat : Int) ≤ 57)))

def r09_Name_l1 (s1 : Str) : Nat → Int → Option Bool
 | 0, _ => none
 | kk1 + 1, i1 =>
  if decide (i1 < (s1.length : Int)) then
   bind1 (idx s1 i1) fun x1 =>
   bind1 (r09_letter x1) fun x2 =>
   bind1 (
     if !x2 then
      if i1 == 0 then
       some true
      else
       bind1 (idx s1 i1) fun x3 =>
       bind1 (r09_digit x3) fun x4 =>
       some (!x4)
     else
      some false) fun b1 =>
   if b1 then
    some false
   else
    r09_Name_l1 s1 kk1 (w64 (i1 + 1))
  else
   some ((decide (1 ≤ (s1.length : Int))) && (decide ((s1.length : Int) ≤ 64)))

def r09_Name (s1 : Str) : Option Bool :=
 r09_Name_l1 s1 BIG 0

def r10_Plain (s1 : Str) : Option Bool :=
 bind1 (r09_Name s1) fun x1 =>
 some (((x1 && (!(s1 == ([116, 114, 117, 101] : Str)))) && (!(s1 == ([102, 97, 108, 115, 101] : Str)))) && (!(s1 == ([110, 117, 108, 108] : Str))))

def r08_holds (kind1 : Int) : Option Bool :=
 some ((kind1 == 5) || (kind1 == 6))

def r08_check_b (go_r08_check : ApiType → Int → Option Int) (t1 : ApiType) (level1 : Int) : Option Int :=
 if decide (16 < level1) then
  some 13
 else
  if (decide (t1.kind < 0)) || (decide (7 < t1.kind)) then
   some 1
  else
   bind1 (r08_holds t1.kind) fun x1 =>
   if !x1 then
    if decide (0 < (t1.elem.length : Int)) then
     some 1
    else
     some 0
   else
    if (t1.elem.length : Int) != 1 then
     some 1
    else
     bind1 (idx t1.elem 0) fun e1 =>
     go_r08_check e1 (w64 (level1 + 1))

def r08_check_n : Nat → ApiType → Int → Option Int
 | 0, _, _ => none
 | k + 1, ut1, ulevel1 => r08_check_b (r08_check_n k) ut1 ulevel1

def r08_check (ut1 : ApiType) (ulevel1 : Int) : Option Int := r08_check_n BIG ut1 ulevel1

def r08_Valid (t1 : ApiType) : Option Int :=
 r08_check t1 1

def r11_Env_l2 (env1 : List ApiDecl) (i1 : Int) (go_r11_Env_l1 : Int → Option Int) : Nat → Int → Option Int
 | 0, _ => none
 | kk2 + 1, kx1 =>
  if decide (kx1 < i1) then
   bind1 (idx env1 kx1) fun e4 =>
   bind1 (idx env1 i1) fun e5 =>
   if e4.name == e5.name then
    some 7
   else
    r11_Env_l2 env1 i1 go_r11_Env_l1 kk2 (w64 (kx1 + 1))
  else
   go_r11_Env_l1 (w64 (i1 + 1))

def r11_Env_l1 (env1 : List ApiDecl) : Nat → Int → Option Int
 | 0, _ => none
 | kk1 + 1, i1 =>
  if decide (i1 < (env1.length : Int)) then
   bind1 (idx env1 i1) fun e1 =>
   bind1 (r10_Plain e1.name) fun x1 =>
   if !x1 then
    some 1
   else
    bind1 (idx env1 i1) fun e2 =>
    bind1 (r08_Valid e2.type_) fun e3 =>
    if e3 != 0 then
     some e3
    else
     r11_Env_l2 env1 i1 (r11_Env_l1 env1 kk1) BIG 0
  else
   some 0

def r11_Env (env1 : List ApiDecl) : Option Int :=
 if decide (1024 < (env1.length : Int)) then
  some 3
 else
  r11_Env_l1 env1 BIG 0

def r08_Same_l1 (go_r08_Same : ApiType → ApiType → Option Bool) (a1 : ApiType) (b1 : ApiType) : Nat → Int → Option Bool
 | 0, _ => none
 | kk1 + 1, i1 =>
  if decide (i1 < (a1.elem.length : Int)) then
   bind1 (idx a1.elem i1) fun e1 =>
   bind1 (idx b1.elem i1) fun e2 =>
   bind1 (go_r08_Same e1 e2) fun x1 =>
   if !x1 then
    some false
   else
    r08_Same_l1 go_r08_Same a1 b1 kk1 (w64 (i1 + 1))
  else
   some true

def r08_Same_b (go_r08_Same : ApiType → ApiType → Option Bool) (a1 : ApiType) (b1 : ApiType) : Option Bool :=
 if (a1.kind != b1.kind) || ((a1.elem.length : Int) != (b1.elem.length : Int)) then
  some false
 else
  r08_Same_l1 go_r08_Same a1 b1 BIG 0

def r08_Same_n : Nat → ApiType → ApiType → Option Bool
 | 0, _, _ => none
 | k + 1, ua1, ub1 => r08_Same_b (r08_Same_n k) ua1 ub1

def r08_Same (ua1 : ApiType) (ub1 : ApiType) : Option Bool := r08_Same_n BIG ua1 ub1

def l11_CheckUnused_l1 (e1 : ApiExpr) (env1 : List ApiDecl) (d1 : ApiDecl) (more2 : List ApiDecl) (l1 : List Str) : Nat → Int → Option Bool
 | 0, _ => none
 | kk1 + 1, i1 =>
  if decide (i1 < (l1.length : Int)) then
   bind1 (idx l1 i1) fun e2 =>
   if e2 == d1.name then
    l11_awake
   else
    l11_CheckUnused_l1 e1 env1 d1 more2 l1 kk1 (w64 (i1 + 1))
  else
   bind2 (check_Expr e1 env1) fun x6 f1 =>
   bind2 (check_Expr e1 more2) fun x7 g1 =>
   bind1 (
     if f1 == g1 then
      r08_Same x6 x7
     else
      some false) fun b1 =>
   if b1 then
    l11_awake
   else
    some false

def l11_CheckUnused (e1 : ApiExpr) (env1 : List ApiDecl) (d1 : ApiDecl) : Option Bool :=
 bind1 (l11_small e1 (env1.length : Int)) fun x1 =>
 if !x1 then
  l11_awake
 else
  bind1 (app [] [d1]) fun more1 =>
  bind1 (app more1 env1) fun more2 =>
  bind1 (check_Env more2) fun x3 =>
  if x3 != 0 then
   l11_awake
  else
   bind1 (check_Names e1) fun l1 =>
   l11_CheckUnused_l1 e1 env1 d1 more2 l1 BIG 0

def r10_arity (e1 : ApiExpr) : Option Bool :=
 if e1.kind == 1 then
  some ((e1.args.length : Int) == 0)
 else
  if e1.kind == 2 then
   some ((e1.args.length : Int) == 0)
  else
   if e1.kind == 3 then
    some ((e1.args.length : Int) == 1)
   else
    if e1.kind == 6 then
     some ((e1.args.length : Int) == 1)
    else
     if e1.kind == 4 then
      some ((e1.args.length : Int) == 2)
     else
      if e1.kind == 7 then
       some ((e1.args.length : Int) == 2)
      else
       if e1.kind == 8 then
        some ((e1.args.length : Int) == 3)
       else
        some (((e1.kind == 5) || (e1.kind == 9)) || (e1.kind == 10))

def r10_Strength (op1 : Str) : Option Int :=
 if op1 == ([124, 124] : Str) then
  some 2
 else
  if op1 == ([38, 38] : Str) then
   some 3
  else
   if op1 == ([61, 61] : Str) then
    some 4
   else
    if op1 == ([33, 61] : Str) then
     some 4
    else
     if op1 == ([60] : Str) then
      some 4
     else
      if op1 == ([60, 61] : Str) then
       some 4
      else
       if op1 == ([62] : Str) then
        some 4
       else
        if op1 == ([62, 61] : Str) then
         some 4
        else
         if op1 == ([43] : Str) then
          some 5
         else
          if op1 == ([45] : Str) then
           some 5
          else
           if op1 == ([42] : Str) then
            some 6
           else
            if op1 == ([47] : Str) then
             some 6
            else
             if op1 == ([37] : Str) then
              some 6
             else
              some 0

def r10_named (e1 : ApiExpr) : Option Bool :=
 if e1.kind == 2 then
  r10_Plain e1.name
 else
  if e1.kind == 3 then
   r10_Plain e1.name
  else
   if e1.kind == 5 then
    r10_Plain e1.name
   else
    if e1.kind == 6 then
     some ((e1.name == ([33] : Str)) || (e1.name == ([45] : Str)))
    else
     if e1.kind == 7 then
      bind1 (r10_Strength e1.name) fun x4 =>
      some (decide (0 < x4))
     else
      some (e1.name == ([] : Str))

def r07_Same_l2 (go_r07_Same : ApiValue → ApiValue → Option Bool) (a1 : ApiValue) (b1 : ApiValue) : Nat → Int → Option Bool
 | 0, _ => none
 | kk2 + 1, i2 =>
  if decide (i2 < (a1.list_.length : Int)) then
   bind1 (idx a1.list_ i2) fun e3 =>
   bind1 (idx b1.list_ i2) fun e4 =>
   bind1 (go_r07_Same e3 e4) fun x1 =>
   if !x1 then
    some false
   else
    r07_Same_l2 go_r07_Same a1 b1 kk2 (w64 (i2 + 1))
  else
   some true

def r07_Same_l1 (go_r07_Same : ApiValue → ApiValue → Option Bool) (a1 : ApiValue) (b1 : ApiValue) : Nat → Int → Option Bool
 | 0, _ => none
 | kk1 + 1, i1 =>
  if decide (i1 < (a1.keys.length : Int)) then
   bind1 (idx a1.keys i1) fun e1 =>
   bind1 (idx b1.keys i1) fun e2 =>
   if !(e1 == e2) then
    some false
   else
    r07_Same_l1 go_r07_Same a1 b1 kk1 (w64 (i1 + 1))
  else
   r07_Same_l2 go_r07_Same a1 b1 BIG 0

def r07_Same_b (go_r07_Same : ApiValue → ApiValue → Option Bool) (a1 : ApiValue) (b1 : ApiValue) : Option Bool :=
 if (((((a1.kind != b1.kind) || (!(a1.bool_ == b1.bool_))) || (a1.int_ != b1.int_)) || (!(a1.str_ == b1.str_))) || ((a1.list_.length : Int) != (b1.list_.length : Int))) || ((a1.keys.length : Int) != (b1.keys.length : Int)) then
  some false
 else
  r07_Same_l1 go_r07_Same a1 b1 BIG 0

def r07_Same_n : Nat → ApiValue → ApiValue → Option Bool
 | 0, _, _ => none
 | k + 1, ua1, ub1 => r07_Same_b (r07_Same_n k) ua1 ub1

def r07_Same (ua1 : ApiValue) (ub1 : ApiValue) : Option Bool := r07_Same_n BIG ua1 ub1

def r10_formed_l1 (e1 : ApiExpr) : Nat → Int → Option Bool
 | 0, _ => none
 | kk1 + 1, i1 =>
  if decide (i1 < (e1.keys.length : Int)) then
   bind1 (idx e1.keys i1) fun e2 =>
   bind1 (
     if decide ((e2.length : Int) < 1) then
      some true
     else
      bind1 (idx e1.keys i1) fun e3 =>
      some (decide (64 < (e3.length : Int)))) fun b4 =>
   if b4 then
    some false
   else
    r10_formed_l1 e1 kk1 (w64 (i1 + 1))
  else
   some ((e1.keys.length : Int) == (e1.args.length : Int))

def r10_formed (e1 : ApiExpr) : Option Bool :=
 bind1 (r10_arity e1) fun x1 =>
 bind1 (
   if !x1 then
    some true
   else
    bind1 (r10_named e1) fun x2 =>
    some (!x2)) fun b1 =>
 bind1 (
   if b1 then
    some true
   else
    if e1.kind != 1 then
     bind1 (r07_Same e1.value (ApiValue.mk 0 false 0 ([] : Str) [] [])) fun x3 =>
     some (!x3)
    else
     some false) fun b2 =>
 if b2 then
  some false
 else
  if e1.kind != 10 then
   some ((e1.keys.length : Int) == 0)
  else
   r10_formed_l1 e1 BIG 0

def r07_plain (v1 : ApiValue) : Option Bool :=
 if ((v1.bool_ && (v1.kind != 1)) || ((v1.int_ != 0) && (v1.kind != 2))) || ((!(v1.str_ == ([] : Str))) && (v1.kind != 3)) then
  some false
 else
  if ((decide (0 < (v1.list_.length : Int))) && (v1.kind != 4)) && (v1.kind != 5) then
   some false
  else
   some (((v1.keys.length : Int) == 0) || (v1.kind == 5))

def r07_key (s1 : Str) : Option Bool :=
 some ((decide (1 ≤ (s1.length : Int))) && (decide ((s1.length : Int) ≤ 64)))

def r07_ascending_l1 (v1 : ApiValue) : Nat → Int → Option Bool
 | 0, _ => none
 | kk1 + 1, i1 =>
  if decide (i1 < (v1.keys.length : Int)) then
   bind1 (idx v1.keys i1) fun e1 =>
   bind1 (r07_key e1) fun x1 =>
   bind1 (
     if !x1 then
      some true
     else
      if decide (0 < i1) then
       bind1 (idx v1.keys (w64 (i1 - 1))) fun e2 =>
       bind1 (idx v1.keys i1) fun e3 =>
       bind1 (r04_Compare e2 e3) fun x2 =>
       some (decide (0 ≤ x2))
      else
       some false) fun b1 =>
   if b1 then
    some false
   else
    r07_ascending_l1 v1 kk1 (w64 (i1 + 1))
  else
   some ((v1.keys.length : Int) == (v1.list_.length : Int))

def r07_ascending (v1 : ApiValue) : Option Bool :=
 r07_ascending_l1 v1 BIG 0

def r07_check_l1 (go_r07_check : ApiValue → Int → Option Int) (v1 : ApiValue) (level1 : Int) : Nat → Int → Option Int
 | 0, _ => none
 | kk1 + 1, i1 =>
  if decide (i1 < (v1.list_.length : Int)) then
   bind1 (idx v1.list_ i1) fun e1 =>
   bind1 (go_r07_check e1 (w64 (level1 + 1))) fun e2 =>
   if e2 != 0 then
    some e2
   else
    r07_check_l1 go_r07_check v1 level1 kk1 (w64 (i1 + 1))
  else
   some 0

def r07_check_b (go_r07_check : ApiValue → Int → Option Int) (v1 : ApiValue) (level1 : Int) : Option Int :=
 if decide (16 < level1) then
  some 13
 else
  bind1 (
    if (decide (v1.kind < 0)) || (decide (5 < v1.kind)) then
     some true
    else
     bind1 (r07_plain v1) fun x1 =>
     some (!x1)) fun b1 =>
  if b1 then
   some 1
  else
   if (decide (v1.int_ < (-9007199254740992))) || (decide (9007199254740992 < v1.int_)) then
    some 2
   else
    if ((decide (4096 < (v1.str_.length : Int))) || (decide (1024 < (v1.list_.length : Int)))) || (decide (1024 < (v1.keys.length : Int))) then
     some 3
    else
     bind1 (
       if v1.kind == 5 then
        bind1 (r07_ascending v1) fun x2 =>
        some (!x2)
       else
        some false) fun b2 =>
     if b2 then
      some 1
     else
      if ((decide (4 ≤ v1.kind)) && ((v1.list_.length : Int) == 0)) && (level1 == 16) then
       some 13
      else
       r07_check_l1 go_r07_check v1 level1 BIG 0

def r07_check_n : Nat → ApiValue → Int → Option Int
 | 0, _, _ => none
 | k + 1, uv1, ulevel1 => r07_check_b (r07_check_n k) uv1 ulevel1

def r07_check (uv1 : ApiValue) (ulevel1 : Int) : Option Int := r07_check_n BIG uv1 ulevel1

def r07_Valid (v1 : ApiValue) : Option Int :=
 r07_check v1 1

def r10_twice_l2 (keys1 : List Str) (i1 : Int) (go_r10_twice_l1 : Int → Option Bool) : Nat → Int → Option Bool
 | 0, _ => none
 | kk2 + 1, kx1 =>
  if decide (kx1 < i1) then
   bind1 (idx keys1 i1) fun e1 =>
   bind1 (idx keys1 kx1) fun e2 =>
   if e1 == e2 then
    some true
   else
    r10_twice_l2 keys1 i1 go_r10_twice_l1 kk2 (w64 (kx1 + 1))
  else
   go_r10_twice_l1 (w64 (i1 + 1))

def r10_twice_l1 (keys1 : List Str) : Nat → Int → Option Bool
 | 0, _ => none
 | kk1 + 1, i1 =>
  if decide (i1 < (keys1.length : Int)) then
   r10_twice_l2 keys1 i1 (r10_twice_l1 keys1 kk1) BIG 0
  else
   some false

def r10_twice (keys1 : List Str) : Option Bool :=
 r10_twice_l1 keys1 BIG 0

def r10_check_l1 (go_r10_check : ApiExpr → Int → Option Int) (e1 : ApiExpr) (level1 : Int) : Nat → Int → Option Int
 | 0, _ => none
 | kk1 + 1, i1 =>
  if decide (i1 < (e1.args.length : Int)) then
   bind1 (idx e1.args i1) fun e2 =>
   bind1 (go_r10_check e2 (w64 (level1 + 1))) fun f2 =>
   if f2 != 0 then
    some f2
   else
    r10_check_l1 go_r10_check e1 level1 kk1 (w64 (i1 + 1))
  else
   some 0

def r10_check_b (go_r10_check : ApiExpr → Int → Option Int) (e1 : ApiExpr) (level1 : Int) : Option Int :=
 if decide (16 < level1) then
  some 13
 else
  bind1 (r10_formed e1) fun x1 =>
  if !x1 then
   some 1
  else
   bind1 (r07_Valid e1.value) fun f1 =>
   if (e1.kind == 1) && (f1 != 0) then
    some f1
   else
    if decide (1024 < (e1.args.length : Int)) then
     some 3
    else
     bind1 (r10_twice e1.keys) fun x2 =>
     if x2 then
      some 7
     else
      r10_check_l1 go_r10_check e1 level1 BIG 0

def r10_check_n : Nat → ApiExpr → Int → Option Int
 | 0, _, _ => none
 | k + 1, ue1, ulevel1 => r10_check_b (r10_check_n k) ue1 ulevel1

def r10_check (ue1 : ApiExpr) (ulevel1 : Int) : Option Int := r10_check_n BIG ue1 ulevel1

def r10_Valid (e1 : ApiExpr) : Option Int :=
 bind1 (r10_Count e1) fun x1 =>
 if decide (4096 < x1) then
  some 15
 else
  r10_check e1 1

def r08_Plain (kind1 : Int) : Option ApiType :=
 some (ApiType.mk kind1 [])

def r08_With (kind1 : Int) (t1 : ApiType) : Option ApiType :=
 some (ApiType.mk kind1 [t1])

def r08_join_b (go_r08_join : ApiType → ApiType → Option ApiType) (a1 : ApiType) (b1 : ApiType) : Option ApiType :=
 if a1.kind == 7 then
  some b1
 else
  if b1.kind == 7 then
   some a1
  else
   if a1.kind != b1.kind then
    r08_Plain 0
   else
    bind1 (r08_holds a1.kind) fun x2 =>
    if x2 then
     bind1 (idx a1.elem 0) fun e1 =>
     bind1 (idx b1.elem 0) fun e2 =>
     bind1 (go_r08_join e1 e2) fun x3 =>
     r08_With a1.kind x3
    else
     some a1

def r08_join_n : Nat → ApiType → ApiType → Option ApiType
 | 0, _, _ => none
 | k + 1, ua1, ub1 => r08_join_b (r08_join_n k) ua1 ub1

def r08_join (ua1 : ApiType) (ub1 : ApiType) : Option ApiType := r08_join_n BIG ua1 ub1

def r08_of_l1 (go_r08_of : ApiValue → Option ApiType) (v1 : ApiValue) : Nat → Int → ApiType → Option ApiType
 | 0, _, _ => none
 | kk1 + 1, i1, t1 =>
  if decide (i1 < (v1.list_.length : Int)) then
   bind1 (idx v1.list_ i1) fun e1 =>
   bind1 (go_r08_of e1) fun x6 =>
   bind1 (r08_join t1 x6) fun x7 =>
   r08_of_l1 go_r08_of v1 kk1 (w64 (i1 + 1)) x7
  else
   if v1.kind == 5 then
    r08_With 6 t1
   else
    r08_With 5 t1

def r08_of_b (go_r08_of : ApiValue → Option ApiType) (v1 : ApiValue) : Option ApiType :=
 if v1.kind == 0 then
  r08_Plain 1
 else
  if v1.kind == 1 then
   r08_Plain 2
  else
   if v1.kind == 2 then
    r08_Plain 3
   else
    if v1.kind == 3 then
     r08_Plain 4
    else
     bind1 (r08_Plain 7) fun x5 =>
     r08_of_l1 go_r08_of v1 BIG 0 x5

def r08_of_n : Nat → ApiValue → Option ApiType
 | 0, _ => none
 | k + 1, uv1 => r08_of_b (r08_of_n k) uv1

def r08_of (uv1 : ApiValue) : Option ApiType := r08_of_n BIG uv1

def r08_Of (v1 : ApiValue) : Option ApiType :=
 bind1 (r07_Valid v1) fun x1 =>
 if x1 != 0 then
  r08_Plain 0
 else
  r08_of v1

def r11_plain (kind1 : Int) : Option ApiType :=
 r08_Plain kind1

def r08_good (a1 : ApiType) (b1 : ApiType) : Option Bool :=
 bind1 (r08_Valid a1) fun x1 =>
 if x1 == 0 then
  bind1 (r08_Valid b1) fun x2 =>
  some (x2 == 0)
 else
  some false

def r08_Join (a1 : ApiType) (b1 : ApiType) : Option ApiType :=
 bind1 (r08_good a1 b1) fun x1 =>
 if !x1 then
  r08_Plain 0
 else
  r08_join a1 b1

def r11_leaf_l1 (e1 : ApiExpr) (env1 : List ApiDecl) : Nat → Int → Option (ApiType × Int)
 | 0, _ => none
 | kk1 + 1, i1 =>
  if decide (i1 < (env1.length : Int)) then
   bind1 (idx env1 i1) fun e2 =>
   if e2.name == e1.name then
    bind1 (idx env1 i1) fun e3 =>
    some (e3.type_, 0)
   else
    r11_leaf_l1 e1 env1 kk1 (w64 (i1 + 1))
  else
   some ((ApiType.mk 0 []), 10)

def r11_leaf (e1 : ApiExpr) (env1 : List ApiDecl) : Option (ApiType × Int) :=
 if e1.kind == 1 then
  bind1 (r08_Of e1.value) fun x1 =>
  some (x1, 0)
 else
  r11_leaf_l1 e1 env1 BIG 0

def r11_Args (name1 : Str) : Option Int :=
 if name1 == ([108, 101, 110] : Str) then
  some 1
 else
  if name1 == ([108, 111, 119, 101, 114] : Str) then
   some 1
  else
   if name1 == ([117, 112, 112, 101, 114] : Str) then
    some 1
   else
    if name1 == ([115, 116, 114, 105, 110, 103] : Str) then
     some 1
    else
     if name1 == ([105, 110, 116] : Str) then
      some 1
     else
      if name1 == ([107, 101, 121, 115] : Str) then
       some 1
      else
       if name1 == ([99, 111, 110, 116, 97, 105, 110, 115] : Str) then
        some 2
       else
        if name1 == ([106, 111, 105, 110] : Str) then
         some 2
        else
         if name1 == ([115, 112, 108, 105, 116] : Str) then
          some 2
         else
          if name1 == ([115, 116, 97, 114, 116, 115, 119, 105, 116, 104] : Str) then
           some 2
          else
           if name1 == ([101, 110, 100, 115, 119, 105, 116, 104] : Str) then
            some 2
           else
            if name1 == ([100, 101, 102, 97, 117, 108, 116] : Str) then
             some 2
            else
             some (-1)

def r11_loose (t1 : ApiType) : Option Bool :=
 some ((t1.kind == 0) || (t1.kind == 7))

def r11_Compatible_b (go_r11_Compatible : ApiType → ApiType → Option Bool) (t1 : ApiType) (u1 : ApiType) : Option Bool :=
 bind1 (r11_loose t1) fun x1 =>
 if x1 || (u1.kind == 0) then
  some true
 else
  if t1.kind != u1.kind then
   some false
  else
   if (t1.elem.length : Int) == 0 then
    some true
   else
    bind1 (idx t1.elem 0) fun e1 =>
    bind1 (idx u1.elem 0) fun e2 =>
    go_r11_Compatible e1 e2

def r11_Compatible_n : Nat → ApiType → ApiType → Option Bool
 | 0, _, _ => none
 | k + 1, ut1, uu1 => r11_Compatible_b (r11_Compatible_n k) ut1 uu1

def r11_Compatible (ut1 : ApiType) (uu1 : ApiType) : Option Bool := r11_Compatible_n BIG ut1 uu1

def r11_is (t1 : ApiType) (kind1 : Int) : Option Bool :=
 bind1 (r11_plain kind1) fun x1 =>
 r11_Compatible t1 x1

def r11_index (a1 : ApiType) (b1 : ApiType) : Option (ApiType × Bool) :=
 if a1.kind == 5 then
  bind1 (idx a1.elem 0) fun e1 =>
  bind1 (r11_is b1 3) fun x1 =>
  some (e1, x1)
 else
  if a1.kind == 6 then
   bind1 (idx a1.elem 0) fun e2 =>
   bind1 (r11_is b1 4) fun x2 =>
   some (e2, x2)
  else
   bind1 (r11_loose a1) fun x3 =>
   bind1 (
     if x3 then
      bind1 (r11_is b1 3) fun x4 =>
      if x4 then
       some true
      else
       r11_is b1 4
     else
      some false) fun b2 =>
   some (a1, b2)

def r11_lists (kind1 : Int) : Option ApiType :=
 bind1 (r11_plain 0) fun x1 =>
 r08_With kind1 x1

def r11_call (name1 : Str) (l1 : List ApiType) : Option (ApiType × Bool) :=
 bind1 (r11_plain 4) fun x1 =>
 if name1 == ([108, 101, 110] : Str) then
  bind1 (r11_plain 3) fun x2 =>
  bind1 (idx l1 0) fun e1 =>
  bind1 (r11_is e1 4) fun x3 =>
  bind1 (
    if x3 then
     some true
    else
     bind1 (idx l1 0) fun e2 =>
     bind1 (r11_lists 5) fun x4 =>
     r11_Compatible e2 x4) fun b1 =>
  bind1 (
    if b1 then
     some true
    else
     bind1 (idx l1 0) fun e3 =>
     bind1 (r11_lists 6) fun x6 =>
     r11_Compatible e3 x6) fun b2 =>
  some (x2, b2)
 else
  if name1 == ([99, 111, 110, 116, 97, 105, 110, 115] : Str) then
   bind1 (r11_plain 2) fun x8 =>
   bind1 (idx l1 0) fun e4 =>
   bind1 (r11_lists 5) fun x9 =>
   bind1 (r11_Compatible e4 x9) fun x10 =>
   bind1 (
     if x10 then
      some true
     else
      bind1 (idx l1 1) fun e5 =>
      bind1 (r11_is e5 4) fun x11 =>
      if x11 then
       bind1 (idx l1 0) fun e6 =>
       bind1 (r11_is e6 4) fun x12 =>
       if x12 then
        some true
       else
        bind1 (idx l1 0) fun e7 =>
        bind1 (r11_lists 6) fun x13 =>
        r11_Compatible e7 x13
      else
       some false) fun b3 =>
   some (x8, b3)
  else
   if name1 == ([106, 111, 105, 110] : Str) then
    bind1 (idx l1 0) fun e8 =>
    bind1 (r08_With 5 x1) fun x15 =>
    bind1 (r11_Compatible e8 x15) fun x16 =>
    bind1 (
      if x16 then
       bind1 (idx l1 1) fun e9 =>
       r11_is e9 4
      else
       some false) fun b6 =>
    some (x1, b6)
   else
    if name1 == ([115, 112, 108, 105, 116] : Str) then
     bind1 (r08_With 5 x1) fun x18 =>
     bind1 (idx l1 0) fun e10 =>
     bind1 (r11_is e10 4) fun x19 =>
     bind1 (
       if x19 then
        bind1 (idx l1 1) fun e11 =>
        r11_is e11 4
       else
        some false) fun b7 =>
     some (x18, b7)
    else
     if name1 == ([108, 111, 119, 101, 114] : Str) then
      bind1 (idx l1 0) fun e12 =>
      bind1 (r11_is e12 4) fun x21 =>
      some (x1, x21)
     else
      if name1 == ([117, 112, 112, 101, 114] : Str) then
       bind1 (idx l1 0) fun e13 =>
       bind1 (r11_is e13 4) fun x22 =>
       some (x1, x22)
      else
       if name1 == ([115, 116, 97, 114, 116, 115, 119, 105, 116, 104] : Str) then
        bind1 (r11_plain 2) fun x23 =>
        bind1 (idx l1 0) fun e14 =>
        bind1 (r11_is e14 4) fun x24 =>
        bind1 (
          if x24 then
           bind1 (idx l1 1) fun e15 =>
           r11_is e15 4
          else
           some false) fun b8 =>
        some (x23, b8)
       else
        if name1 == ([101, 110, 100, 115, 119, 105, 116, 104] : Str) then
         bind1 (r11_plain 2) fun x26 =>
         bind1 (idx l1 0) fun e16 =>
         bind1 (r11_is e16 4) fun x27 =>
         bind1 (
           if x27 then
            bind1 (idx l1 1) fun e17 =>
            r11_is e17 4
           else
            some false) fun b9 =>
         some (x26, b9)
        else
         if name1 == ([115, 116, 114, 105, 110, 103] : Str) then
          bind1 (idx l1 0) fun e18 =>
          bind1 (
            if e18.kind != 5 then
             bind1 (idx l1 0) fun e19 =>
             some (e19.kind != 6)
            else
             some false) fun b10 =>
          some (x1, b10)
         else
          if name1 == ([105, 110, 116] : Str) then
           bind1 (r11_plain 3) fun x29 =>
           bind1 (idx l1 0) fun e20 =>
           bind1 (r11_is e20 4) fun x30 =>
           some (x29, x30)
          else
           if name1 == ([107, 101, 121, 115] : Str) then
            bind1 (r08_With 5 x1) fun x31 =>
            bind1 (idx l1 0) fun e21 =>
            bind1 (r11_lists 6) fun x32 =>
            bind1 (r11_Compatible e21 x32) fun x33 =>
            some (x31, x33)
           else
            bind1 (idx l1 0) fun e22 =>
            if e22.kind == 1 then
             bind1 (idx l1 1) fun e23 =>
             some (e23, true)
            else
             bind1 (idx l1 0) fun e24 =>
             some (e24, true)

def r11_common (a1 : ApiType) (b1 : ApiType) : Option Int :=
 bind1 (r11_loose a1) fun x1 =>
 if x1 then
  some b1.kind
 else
  bind1 (r11_loose b1) fun x2 =>
  if x2 || (a1.kind == b1.kind) then
   some a1.kind
  else
   some (-1)

def r11_element (t1 : ApiType) : Option ApiType :=
 bind1 (r11_loose t1) fun x1 =>
 if x1 then
  some t1
 else
  idx t1.elem 0

def r11_sum (a1 : ApiType) (b1 : ApiType) : Option (ApiType × Bool) :=
 bind1 (r11_loose a1) fun x1 =>
 bind1 (
   if x1 then
    r11_loose b1
   else
    some false) fun b2 =>
 if b2 then
  if a1.kind == 0 then
   some (a1, true)
  else
   some (b1, true)
 else
  bind1 (r11_common a1 b1) fun kx1 =>
  if kx1 == 5 then
   bind1 (r11_element a1) fun x3 =>
   bind1 (r11_element b1) fun x4 =>
   bind1 (r08_Join x3 x4) fun x5 =>
   bind1 (r08_With kx1 x5) fun x6 =>
   some (x6, true)
  else
   bind1 (r11_plain kx1) fun x7 =>
   some (x7, ((kx1 == 3) || (kx1 == 4)))

def r11_binary (op1 : Str) (a1 : ApiType) (b1 : ApiType) : Option (ApiType × Bool) :=
 if op1 == ([38, 38] : Str) then
  bind1 (r11_plain 2) fun x1 =>
  bind1 (r11_is a1 2) fun x2 =>
  bind1 (
    if x2 then
     r11_is b1 2
    else
     some false) fun b2 =>
  some (x1, b2)
 else
  if op1 == ([124, 124] : Str) then
   bind1 (r11_plain 2) fun x4 =>
   bind1 (r11_is a1 2) fun x5 =>
   bind1 (
     if x5 then
      r11_is b1 2
     else
      some false) fun b3 =>
   some (x4, b3)
  else
   if op1 == ([61, 61] : Str) then
    bind1 (r11_plain 2) fun x7 =>
    some (x7, true)
   else
    if op1 == ([33, 61] : Str) then
     bind1 (r11_plain 2) fun x8 =>
     some (x8, true)
    else
     if op1 == ([60] : Str) then
      bind1 (r11_common a1 b1) fun kx1 =>
      bind1 (r11_plain 2) fun x9 =>
      bind1 (r11_loose a1) fun x10 =>
      bind1 (
        if x10 then
         r11_loose b1
        else
         some false) fun b4 =>
      some (x9, ((b4 || (kx1 == 3)) || (kx1 == 4)))
     else
      if op1 == ([60, 61] : Str) then
       bind1 (r11_common a1 b1) fun kx2 =>
       bind1 (r11_plain 2) fun x12 =>
       bind1 (r11_loose a1) fun x13 =>
       bind1 (
         if x13 then
          r11_loose b1
         else
          some false) fun b5 =>
       some (x12, ((b5 || (kx2 == 3)) || (kx2 == 4)))
      else
       if op1 == ([62] : Str) then
        bind1 (r11_common a1 b1) fun kx3 =>
        bind1 (r11_plain 2) fun x15 =>
        bind1 (r11_loose a1) fun x16 =>
        bind1 (
          if x16 then
           r11_loose b1
          else
           some false) fun b6 =>
        some (x15, ((b6 || (kx3 == 3)) || (kx3 == 4)))
       else
        if op1 == ([62, 61] : Str) then
         bind1 (r11_common a1 b1) fun kx4 =>
         bind1 (r11_plain 2) fun x18 =>
         bind1 (r11_loose a1) fun x19 =>
         bind1 (
           if x19 then
            r11_loose b1
           else
            some false) fun b7 =>
         some (x18, ((b7 || (kx4 == 3)) || (kx4 == 4)))
        else
         if op1 == ([43] : Str) then
          r11_sum a1 b1
         else
          bind1 (r11_plain 3) fun x23 =>
          bind1 (r11_is a1 3) fun x24 =>
          bind1 (
            if x24 then
             r11_is b1 3
            else
             some false) fun b8 =>
          some (x23, b8)

def r11_node_l1 (e1 : ApiExpr) (l1 : List ApiType) : Nat → Int → ApiType → Option (ApiType × Bool)
 | 0, _, _ => none
 | kk1 + 1, i1, t1 =>
  if decide (i1 < (l1.length : Int)) then
   bind1 (idx l1 i1) fun e16 =>
   bind1 (r08_Join t1 e16) fun x15 =>
   r11_node_l1 e1 l1 kk1 (w64 (i1 + 1)) x15
  else
   if e1.kind == 10 then
    bind1 (r08_With 6 t1) fun x16 =>
    some (x16, true)
   else
    bind1 (r08_With 5 t1) fun x17 =>
    some (x17, true)

def r11_node (e1 : ApiExpr) (l1 : List ApiType) : Option (ApiType × Bool) :=
 if e1.kind == 3 then
  bind1 (idx l1 0) fun e2 =>
  if e2.kind == 6 then
   bind1 (idx l1 0) fun e3 =>
   bind1 (idx e3.elem 0) fun e4 =>
   some (e4, true)
  else
   bind1 (idx l1 0) fun e5 =>
   bind1 (idx l1 0) fun e6 =>
   bind1 (r11_loose e6) fun x1 =>
   some (e5, x1)
 else
  if e1.kind == 4 then
   bind1 (idx l1 0) fun e7 =>
   bind1 (idx l1 1) fun e8 =>
   r11_index e7 e8
  else
   if e1.kind == 5 then
    r11_call e1.name l1
   else
    if e1.kind == 6 then
     if e1.name == ([33] : Str) then
      bind1 (r11_plain 2) fun x6 =>
      bind1 (idx l1 0) fun e9 =>
      bind1 (r11_is e9 2) fun x7 =>
      some (x6, x7)
     else
      bind1 (r11_plain 3) fun x8 =>
      bind1 (idx l1 0) fun e10 =>
      bind1 (r11_is e10 3) fun x9 =>
      some (x8, x9)
    else
     if e1.kind == 7 then
      bind1 (idx l1 0) fun e11 =>
      bind1 (idx l1 1) fun e12 =>
      r11_binary e1.name e11 e12
     else
      if e1.kind == 8 then
       bind1 (idx l1 1) fun e13 =>
       bind1 (idx l1 2) fun e14 =>
       bind1 (r08_Join e13 e14) fun x12 =>
       bind1 (idx l1 0) fun e15 =>
       bind1 (r11_is e15 2) fun x13 =>
       some (x12, x13)
      else
       bind1 (r11_plain 7) fun x14 =>
       r11_node_l1 e1 l1 BIG 0 x14

def r11_expr_l1 (go_r11_expr : ApiExpr → List ApiDecl → Option (ApiType × Int)) (e1 : ApiExpr) (env1 : List ApiDecl) : Nat → List ApiType → Int → Option (ApiType × Int)
 | 0, _, _ => none
 | kk1 + 1, l1, i1 =>
  if decide (i1 < (e1.args.length : Int)) then
   bind1 (idx e1.args i1) fun e2 =>
   bind2 (go_r11_expr e2 env1) fun x5 f1 =>
   if f1 != 0 then
    some ((ApiType.mk 0 []), f1)
   else
    bind1 (app l1 [x5]) fun l2 =>
    r11_expr_l1 go_r11_expr e1 env1 kk1 l2 (w64 (i1 + 1))
  else
   bind2 (r11_node e1 l1) fun x6 ok1 =>
   if !ok1 then
    some ((ApiType.mk 0 []), 9)
   else
    bind1 (r08_Valid x6) fun x7 =>
    if x7 != 0 then
     some ((ApiType.mk 0 []), 13)
    else
     some (x6, 0)

def r11_expr_b (go_r11_expr : ApiExpr → List ApiDecl → Option (ApiType × Int)) (e1 : ApiExpr) (env1 : List ApiDecl) : Option (ApiType × Int) :=
 if (e1.kind == 1) || (e1.kind == 2) then
  r11_leaf e1 env1
 else
  bind1 (
    if e1.kind == 5 then
     bind1 (r11_Args e1.name) fun x3 =>
     some (decide (x3 < 0))
    else
     some false) fun b1 =>
  if b1 then
   some ((ApiType.mk 0 []), 10)
  else
   bind1 (
     if e1.kind == 5 then
      bind1 (r11_Args e1.name) fun x4 =>
      some (x4 != (e1.args.length : Int))
     else
      some false) fun b2 =>
   if b2 then
    some ((ApiType.mk 0 []), 1)
   else
    r11_expr_l1 go_r11_expr e1 env1 BIG [] 0

def r11_expr_n : Nat → ApiExpr → List ApiDecl → Option (ApiType × Int)
 | 0, _, _ => none
 | k + 1, ue1, uenv1 => r11_expr_b (r11_expr_n k) ue1 uenv1

def r11_expr (ue1 : ApiExpr) (uenv1 : List ApiDecl) : Option (ApiType × Int) := r11_expr_n BIG ue1 uenv1

def r11_Expr (e1 : ApiExpr) (env1 : List ApiDecl) : Option (ApiType × Int) :=
 bind1 (r11_Env env1) fun f1 =>
 if f1 != 0 then
  some ((ApiType.mk 0 []), f1)
 else
  bind1 (r10_Valid e1) fun f2 =>
  if f2 != 0 then
   some ((ApiType.mk 0 []), f2)
  else
   r11_expr e1 env1
end Go.Ft
