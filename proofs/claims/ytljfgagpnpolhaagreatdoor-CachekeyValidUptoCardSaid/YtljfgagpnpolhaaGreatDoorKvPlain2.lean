/- Proved here: plain facts on the functional texts. -/
import Derived.Test.YtljfgagpnpolhaaGreatDoorKvPlain1
import Derived.KernelRfl
set_option linter.unusedVariables false
set_option linter.unusedSimpArgs false
set_option linter.unusedSectionVars false
set_option maxHeartbeats 2000000
namespace Go.Ft
open Go
attribute [local congr] iH
theorem aaw {s:Str} (hs:s.length≤2147483648) {i:Nat} (h:i < s.length):uE s (i:Int)=some ((opn (s.drop i):Nat):Int):=by
 unfold uE; obtain ⟨m,hm⟩:∃ m,BIG=m + 20:=⟨BIG - 20,rfl⟩; have hc:idx s (i:Int)=some (s.getD i 0):=by simp (disch:=omega) only [dflt,bg,bq,bW,bf,bA,if_pos,if_neg,ak,aC,aB,aG,aH,aK,aJ,aI,decide_eq_true_eq,beq_iff_eq,bne_iff_ne,ne_eq,Bool.and_eq_true,Bool.or_eq_true,Bool.not_eq_true',Bool.not_eq_true,decide_eq_false_iff_not,beq_eq_false_iff_ne,bne_eq_false_iff_eq,Int.toNat_add,Int.toNat_natCast,Int.reduceToNat,Int.zero_add,Int.add_zero,Nat.add_zero,Nat.zero_add,Bool.true_and,Bool.and_true,Bool.false_and,Bool.and_false,Bool.true_or,Bool.or_true,Bool.false_or,Bool.or_false,Bool.not_true,Bool.not_false,Bool.false_eq_true,Bool.true_eq_false,reduceCtorEq,not_true_eq_false,not_false_eq_true,if_true,if_false,decide_true,decide_false]
 by_cases h2:i + 1 < s.length
 ·
  have hb:sl s (i:Int) (bI ((i:Int) + 2))=some [s.getD i 0,s.getD (i + 1) 0]:=by
   simp (disch:=omega) only [bg,bq,bW,bf,bA,if_pos,if_neg,ak,aC,aB,aG,aH,aK,aJ,aI,decide_eq_true_eq,beq_iff_eq,bne_iff_ne,ne_eq,Bool.and_eq_true,Bool.or_eq_true,Bool.not_eq_true',Bool.not_eq_true,decide_eq_false_iff_not,beq_eq_false_iff_ne,bne_eq_false_iff_eq,Int.toNat_add,Int.toNat_natCast,Int.reduceToNat,Int.zero_add,Int.add_zero,Nat.add_zero,Nat.zero_add,Bool.true_and,Bool.and_true,Bool.false_and,Bool.and_false,Bool.true_or,Bool.or_true,Bool.false_or,Bool.or_false,Bool.not_true,Bool.not_false,Bool.false_eq_true,Bool.true_eq_false,reduceCtorEq,not_true_eq_false,not_false_eq_true,if_true,if_false,decide_true,decide_false]; rw [Kh h2]
  rw [hm,show m + 20=(m + 13) + 7 from rfl,adX s _ _ _ hb rfl (by rw [bg (by omega) (by omega)]; omega),hm,acu,hc]; rw [getD_drop h,getD_drop h2]; unfold opn; cases h3:zw [s.getD i 0,s.getD (i + 1) 0] with
  | true=>simp (disch:=omega) only [h3,bg,bq,bW,bf,bA,if_pos,if_neg,ak,aC,aB,aG,aH,aK,aJ,aI,decide_eq_true_eq,beq_iff_eq,bne_iff_ne,ne_eq,Bool.and_eq_true,Bool.or_eq_true,Bool.not_eq_true',Bool.not_eq_true,decide_eq_false_iff_not,beq_eq_false_iff_ne,bne_eq_false_iff_eq,Int.toNat_add,Int.toNat_natCast,Int.reduceToNat,Int.zero_add,Int.add_zero,Nat.add_zero,Nat.zero_add,Bool.true_and,Bool.and_true,Bool.false_and,Bool.and_false,Bool.true_or,Bool.or_true,Bool.false_or,Bool.or_false,Bool.not_true,Bool.not_false,Bool.false_eq_true,Bool.true_eq_false,reduceCtorEq,not_true_eq_false,not_false_eq_true,if_true,if_false,decide_true,decide_false]; rfl
  | false=>
   simp (disch:=omega) only [h3,bg,bq,bW,bf,bA,if_pos,if_neg,ak,aC,aB,aG,aH,aK,aJ,aI,decide_eq_true_eq,beq_iff_eq,bne_iff_ne,ne_eq,Bool.and_eq_true,Bool.or_eq_true,Bool.not_eq_true',Bool.not_eq_true,decide_eq_false_iff_not,beq_eq_false_iff_ne,bne_eq_false_iff_eq,Int.toNat_add,Int.toNat_natCast,Int.reduceToNat,Int.zero_add,Int.add_zero,Nat.add_zero,Nat.zero_add,Bool.true_and,Bool.and_true,Bool.false_and,Bool.and_false,Bool.true_or,Bool.or_true,Bool.false_or,Bool.or_false,Bool.not_true,Bool.not_false,Bool.false_eq_true,Bool.true_eq_false,reduceCtorEq,not_true_eq_false,not_false_eq_true,if_true,if_false,decide_true,decide_false]; cases h4:zw [s.getD i 0] with
   | true=>simp (disch:=omega) only [h3,h4,bg,bq,bW,bf,bA,if_pos,if_neg,ak,aC,aB,aG,aH,aK,aJ,aI,decide_eq_true_eq,beq_iff_eq,bne_iff_ne,ne_eq,Bool.and_eq_true,Bool.or_eq_true,Bool.not_eq_true',Bool.not_eq_true,decide_eq_false_iff_not,beq_eq_false_iff_ne,bne_eq_false_iff_eq,Int.toNat_add,Int.toNat_natCast,Int.reduceToNat,Int.zero_add,Int.add_zero,Nat.add_zero,Nat.zero_add,Bool.true_and,Bool.and_true,Bool.false_and,Bool.and_false,Bool.true_or,Bool.or_true,Bool.false_or,Bool.or_false,Bool.not_true,Bool.not_false,Bool.false_eq_true,Bool.true_eq_false,reduceCtorEq,not_true_eq_false,not_false_eq_true,if_true,if_false,decide_true,decide_false]; rfl
   | false=>simp (disch:=omega) only [h3,h4,bg,bq,bW,bf,bA,if_pos,if_neg,ak,aC,aB,aG,aH,aK,aJ,aI,decide_eq_true_eq,beq_iff_eq,bne_iff_ne,ne_eq,Bool.and_eq_true,Bool.or_eq_true,Bool.not_eq_true',Bool.not_eq_true,decide_eq_false_iff_not,beq_eq_false_iff_ne,bne_eq_false_iff_eq,Int.toNat_add,Int.toNat_natCast,Int.reduceToNat,Int.zero_add,Int.add_zero,Nat.add_zero,Nat.zero_add,Bool.true_and,Bool.and_true,Bool.false_and,Bool.and_false,Bool.true_or,Bool.or_true,Bool.false_or,Bool.or_false,Bool.not_true,Bool.not_false,Bool.false_eq_true,Bool.true_eq_false,reduceCtorEq,not_true_eq_false,not_false_eq_true,if_true,if_false,decide_true,decide_false]; rfl
 ·
  have g:∀ m:Nat,∀ j:Int,0≤j→j < 12→gq s (i:Int) (m + 1) j=gq s (i:Int) m (j + 2):=by
   intro m j h0 h1; rw [gq]; simp (disch:=omega) only [bg,bq,bW,bf,bA,if_pos,if_neg,ak,aC,aB,aG,aH,aK,aJ,aI,decide_eq_true_eq,beq_iff_eq,bne_iff_ne,ne_eq,Bool.and_eq_true,Bool.or_eq_true,Bool.not_eq_true',Bool.not_eq_true,decide_eq_false_iff_not,beq_eq_false_iff_ne,bne_eq_false_iff_eq,Int.toNat_add,Int.toNat_natCast,Int.reduceToNat,Int.zero_add,Int.add_zero,Nat.add_zero,Nat.zero_add,Bool.true_and,Bool.and_true,Bool.false_and,Bool.and_false,Bool.true_or,Bool.or_true,Bool.false_or,Bool.or_false,Bool.not_true,Bool.not_false,Bool.false_eq_true,Bool.true_eq_false,reduceCtorEq,not_true_eq_false,not_false_eq_true,if_true,if_false,decide_true,decide_false]
  have z:∀ m:Nat,gq s (i:Int) (m + 1) 12=gJ s (i:Int) BIG 0:=by intro m; rw [gq]; simp
  rw [hm,show m + 20=(m + 13 + 1 + 6) from rfl,g _ _ (by omega) (by omega),g _ _ (by omega) (by omega),g _ _ (by omega) (by omega),g _ _ (by omega) (by omega),g _ _ (by omega) (by omega),g _ _ (by omega) (by omega)]; rw [show (0:Int) + 2 + 2 + 2 + 2 + 2 + 2=12 from rfl,z,hm,acu,hc]; rw [getD_drop h,List.drop_eq_nil_of_le (by omega:s.length≤i + 1)]; unfold opn; cases h4:zw [s.getD i 0] with
  | true=>simp (disch:=omega) only [h4,bg,bq,bW,bf,bA,if_pos,if_neg,ak,aC,aB,aG,aH,aK,aJ,aI,decide_eq_true_eq,beq_iff_eq,bne_iff_ne,ne_eq,Bool.and_eq_true,Bool.or_eq_true,Bool.not_eq_true',Bool.not_eq_true,decide_eq_false_iff_not,beq_eq_false_iff_ne,bne_eq_false_iff_eq,Int.toNat_add,Int.toNat_natCast,Int.reduceToNat,Int.zero_add,Int.add_zero,Nat.add_zero,Nat.zero_add,Bool.true_and,Bool.and_true,Bool.false_and,Bool.and_false,Bool.true_or,Bool.or_true,Bool.false_or,Bool.or_false,Bool.not_true,Bool.not_false,Bool.false_eq_true,Bool.true_eq_false,reduceCtorEq,not_true_eq_false,not_false_eq_true,if_true,if_false,decide_true,decide_false]; rfl
  | false=>simp (disch:=omega) only [h4,bg,bq,bW,bf,bA,if_pos,if_neg,ak,aC,aB,aG,aH,aK,aJ,aI,decide_eq_true_eq,beq_iff_eq,bne_iff_ne,ne_eq,Bool.and_eq_true,Bool.or_eq_true,Bool.not_eq_true',Bool.not_eq_true,decide_eq_false_iff_not,beq_eq_false_iff_ne,bne_eq_false_iff_eq,Int.toNat_add,Int.toNat_natCast,Int.reduceToNat,Int.zero_add,Int.add_zero,Nat.add_zero,Nat.zero_add,Bool.true_and,Bool.and_true,Bool.false_and,Bool.and_false,Bool.true_or,Bool.or_true,Bool.false_or,Bool.or_false,Bool.not_true,Bool.not_false,Bool.false_eq_true,Bool.true_eq_false,reduceCtorEq,not_true_eq_false,not_false_eq_true,if_true,if_false,decide_true,decide_false]; rfl
theorem Oo (l:Str):span isDigit l < span isWord l↔∃ c,l[span isDigit l]?=some c∧mK c=true:=by
 induction l with
 | nil=>simp
 | cons c l ih=>
  rw [ko,ko]; cases h:isDigit c with
  | false=>cases h2:mK c <;> simp [isWord,h,h2]
  | true=>simp [isWord,h,ih]
theorem G8 (p:UInt8→Bool) (l:Str):∀ c∈l.take (span p l),p c=true:=by
 induction l with
 | nil=>simp
 | cons c l ih=>
  rw [ko]; split
  ·
   rename_i h; intro x hx; simp only [List.take_succ_cons,List.mem_cons] at hx; rcases hx with rfl | hx
   · exact h
   · exact ih x hx
  · simp
def mq :Str→Int × Str × Nat × Int
 | []=>(0,[],0,5)
 | c :: r=>
  if isDigit c then
   let n:=span isDigit (c :: r)
   if (1 < n∧c.toNat=48)∨n < span isWord (c :: r) then (0,[],0,5)
   else if Ao < val ((c :: r).take n) then (0,[],0,2) else (2,(c :: r).take n,n,0)
  else if c.toNat=34 then
   let x:=txt 0 [] 1 r
   if x.2.2=0 then (3,x.1,x.2.1,0) else (0,[],0,x.2.2)
  else if mK c then
   let n:=span isWord (c :: r)
   if 64 < n then (0,[],0,3) else (1,(c :: r).take n,n,0)
  else
   let n:=opn (c :: r)
   if n=0 then (0,[],0,5) else (4,(c :: r).take n,n,0)
def Z5 (a:Nat) (x:Int × Str × Nat × Int):au × Int × Int:=if x.2.2.2=0 then (⟨x.1,x.2.1,a⟩,((a + x.2.2.1:Nat):Int),0) else (⟨0,[],0⟩,0,x.2.2.2)
def rtk (x:Int × Str × Nat × Int):au × Int × Int:=if x.2.2.2=0 then (⟨x.1,x.2.1,0⟩,(x.2.2.1:Int),0) else (⟨0,[],0⟩,0,x.2.2.2)
end Go.Ft
namespace Go.Ft
open Go
attribute [local congr] iH
theorem oQ (s:Str) (i:Nat):(s.drop i).length=s.length - i:=List.length_drop
theorem tQ (s:Str) (i n:Nat):(s.take (i + n)).drop i=(s.drop i).take n:=by
 rw [List.drop_take,Nat.add_sub_cancel_left]
theorem NJ {s:Str} {i n:Nat} (c:UInt8):(s.drop i)[n]?=some c↔s[i + n]?=some c:=by rw [List.getElem?_drop]
theorem XE {s:Str} (hs:s.length≤2147483648) {i:Nat} (h:i < s.length):yR s (i:Int)=
  some (Z5 i (if 64 < span isWord (s.drop i) then (0,[],0,3) else (1,(s.drop i).take (span isWord (s.drop i)),span isWord (s.drop i),0))):=by
 have hle:=xL isWord (s.drop i); rw [oQ] at hle; unfold yR; rw [J4 Xy (by omega) (by omega)]; generalize span isWord (s.drop i)=n at hle ⊢; simp (disch:=omega) only [bg,bq,bW,bf,bA,if_pos,if_neg,ak,aC,aB,aG,aH,aK,aJ,aI,decide_eq_true_eq,beq_iff_eq,bne_iff_ne,ne_eq,Bool.and_eq_true,Bool.or_eq_true,Bool.not_eq_true',Bool.not_eq_true,decide_eq_false_iff_not,beq_eq_false_iff_ne,bne_eq_false_iff_eq,Int.toNat_add,Int.toNat_natCast,Int.reduceToNat,Int.zero_add,Int.add_zero,Nat.add_zero,Nat.zero_add,Bool.true_and,Bool.and_true,Bool.false_and,Bool.and_false,Bool.true_or,Bool.or_true,Bool.false_or,Bool.or_false,Bool.not_true,Bool.not_false,Bool.false_eq_true,Bool.true_eq_false,reduceCtorEq,not_true_eq_false,not_false_eq_true,if_true,if_false,decide_true,decide_false]; by_cases h1:64 < n
 · simp (disch:=omega) only [bg,bq,bW,bf,bA,if_pos,if_neg,ak,aC,aB,aG,aH,aK,aJ,aI,decide_eq_true_eq,beq_iff_eq,bne_iff_ne,ne_eq,Bool.and_eq_true,Bool.or_eq_true,Bool.not_eq_true',Bool.not_eq_true,decide_eq_false_iff_not,beq_eq_false_iff_ne,bne_eq_false_iff_eq,Int.toNat_add,Int.toNat_natCast,Int.reduceToNat,Int.zero_add,Int.add_zero,Nat.add_zero,Nat.zero_add,Bool.true_and,Bool.and_true,Bool.false_and,Bool.and_false,Bool.true_or,Bool.or_true,Bool.false_or,Bool.or_false,Bool.not_true,Bool.not_false,Bool.false_eq_true,Bool.true_eq_false,reduceCtorEq,not_true_eq_false,not_false_eq_true,if_true,if_false,decide_true,decide_false]; rfl
 ·
  simp (disch:=omega) only [bg,bq,bW,bf,bA,if_pos,if_neg,ak,aC,aB,aG,aH,aK,aJ,aI,decide_eq_true_eq,beq_iff_eq,bne_iff_ne,ne_eq,Bool.and_eq_true,Bool.or_eq_true,Bool.not_eq_true',Bool.not_eq_true,decide_eq_false_iff_not,beq_eq_false_iff_ne,bne_eq_false_iff_eq,Int.toNat_add,Int.toNat_natCast,Int.reduceToNat,Int.zero_add,Int.add_zero,Nat.add_zero,Nat.zero_add,Bool.true_and,Bool.and_true,Bool.false_and,Bool.and_false,Bool.true_or,Bool.or_true,Bool.false_or,Bool.or_false,Bool.not_true,Bool.not_false,Bool.false_eq_true,Bool.true_eq_false,reduceCtorEq,not_true_eq_false,not_false_eq_true,if_true,if_false,decide_true,decide_false]; rw [tQ]; rfl
theorem SY {s:Str} (hs:s.length≤2147483648) {i:Nat} (h:i < s.length) (hd:isDigit (s.getD i 0)=true):uQ s (i:Int)=some (Z5 i (mq (s.drop i))):=by
 have hle:=xL isDigit (s.drop i); rw [oQ] at hle; have hlt:=Oo (s.drop i); have htk:=G8 isDigit (s.drop i); have hpos:0 < span isDigit (s.drop i):=by rw [getD_drop h,ko,hd]; simp
 have hh:(s.drop i)=s.getD i 0 :: s.drop (i + 1):=getD_drop h
 have ht:mq (s.drop i)=if (1 < span isDigit (s.drop i)∧(s.getD i 0).toNat=48)∨span isDigit (s.drop i) < span isWord (s.drop i) then (0,[],0,5)
   else if Ao < val ((s.drop i).take (span isDigit (s.drop i))) then (0,[],0,2) else (2,(s.drop i).take (span isDigit (s.drop i)),span isDigit (s.drop i),0):=by
  rw [hh]; simp only [mq,hd,if_true]
 rw [ht]; unfold uQ; rw [J4 digit_eq (by omega) (by omega)]; generalize span isDigit (s.drop i)=n at hle hlt htk hpos ⊢; generalize span isWord (s.drop i)=m at hlt ⊢
 have e1:sl s (i:Int) ((i + n:Nat):Int)=some ((s.drop i).take n):=by
  simp (disch:=omega) only [bg,bq,bW,bf,bA,if_pos,if_neg,ak,aC,aB,aG,aH,aK,aJ,aI,decide_eq_true_eq,beq_iff_eq,bne_iff_ne,ne_eq,Bool.and_eq_true,Bool.or_eq_true,Bool.not_eq_true',Bool.not_eq_true,decide_eq_false_iff_not,beq_eq_false_iff_ne,bne_eq_false_iff_eq,Int.toNat_add,Int.toNat_natCast,Int.reduceToNat,Int.zero_add,Int.add_zero,Nat.add_zero,Nat.zero_add,Bool.true_and,Bool.and_true,Bool.false_and,Bool.and_false,Bool.true_or,Bool.or_true,Bool.false_or,Bool.or_false,Bool.not_true,Bool.not_false,Bool.false_eq_true,Bool.true_eq_false,reduceCtorEq,not_true_eq_false,not_false_eq_true,if_true,if_false,decide_true,decide_false]; rw [tQ]
 have e2:((s.drop i).take n).length=n:=by simp; omega
 have e3:((s.drop i).take n).getD 0 0=s.getD i 0:=by
  obtain ⟨k,rfl⟩:∃ k,n=k + 1:=⟨n - 1,by omega⟩; rw [hh]; rfl
 rw [ak,e1,ak,e2]; by_cases hw:n < m
 ·
  obtain ⟨c,hc,hl⟩:=hlt.1 hw; rw [NJ] at hc; have hlt2:i + n < s.length:=(List.getElem?_eq_some_iff.1 hc).1; have e4:s.getD (i + n) 0=c:=by rw [List.getD_eq_getElem?_getD,hc]; rfl
  rw [if_pos (Or.inr hw)]; by_cases h1:1 < n
  ·
   by_cases h2:(s.getD i 0).toNat=48
   · simp (disch:=omega) only [e2,e3,dflt,bg,bq,bW,bf,bA,if_pos,if_neg,ak,aC,aB,aG,aH,aK,aJ,aI,decide_eq_true_eq,beq_iff_eq,bne_iff_ne,ne_eq,Bool.and_eq_true,Bool.or_eq_true,Bool.not_eq_true',Bool.not_eq_true,decide_eq_false_iff_not,beq_eq_false_iff_ne,bne_eq_false_iff_eq,Int.toNat_add,Int.toNat_natCast,Int.reduceToNat,Int.zero_add,Int.add_zero,Nat.add_zero,Nat.zero_add,Bool.true_and,Bool.and_true,Bool.false_and,Bool.and_false,Bool.true_or,Bool.or_true,Bool.false_or,Bool.or_false,Bool.not_true,Bool.not_false,Bool.false_eq_true,Bool.true_eq_false,reduceCtorEq,not_true_eq_false,not_false_eq_true,if_true,if_false,decide_true,decide_false]; rfl
   · simp (disch:=omega) only [e2,e3,dflt,letter_eq,e4,hl,bg,bq,bW,bf,bA,if_pos,if_neg,ak,aC,aB,aG,aH,aK,aJ,aI,decide_eq_true_eq,beq_iff_eq,bne_iff_ne,ne_eq,Bool.and_eq_true,Bool.or_eq_true,Bool.not_eq_true',Bool.not_eq_true,decide_eq_false_iff_not,beq_eq_false_iff_ne,bne_eq_false_iff_eq,Int.toNat_add,Int.toNat_natCast,Int.reduceToNat,Int.zero_add,Int.add_zero,Nat.add_zero,Nat.zero_add,Bool.true_and,Bool.and_true,Bool.false_and,Bool.and_false,Bool.true_or,Bool.or_true,Bool.false_or,Bool.or_false,Bool.not_true,Bool.not_false,Bool.false_eq_true,Bool.true_eq_false,reduceCtorEq,not_true_eq_false,not_false_eq_true,if_true,if_false,decide_true,decide_false]; rfl
  · simp (disch:=omega) only [e2,e3,dflt,letter_eq,e4,hl,bg,bq,bW,bf,bA,if_pos,if_neg,ak,aC,aB,aG,aH,aK,aJ,aI,decide_eq_true_eq,beq_iff_eq,bne_iff_ne,ne_eq,Bool.and_eq_true,Bool.or_eq_true,Bool.not_eq_true',Bool.not_eq_true,decide_eq_false_iff_not,beq_eq_false_iff_ne,bne_eq_false_iff_eq,Int.toNat_add,Int.toNat_natCast,Int.reduceToNat,Int.zero_add,Int.add_zero,Nat.add_zero,Nat.zero_add,Bool.true_and,Bool.and_true,Bool.false_and,Bool.and_false,Bool.true_or,Bool.or_true,Bool.false_or,Bool.or_false,Bool.not_true,Bool.not_false,Bool.false_eq_true,Bool.true_eq_false,reduceCtorEq,not_true_eq_false,not_false_eq_true,if_true,if_false,decide_true,decide_false]; rfl
 ·
  by_cases hz:1 < n∧(s.getD i 0).toNat=48
  ·
   rw [if_pos (Or.inl hz)]; simp (disch:=omega) only [e2,e3,dflt,bg,bq,bW,bf,bA,if_pos,if_neg,ak,aC,aB,aG,aH,aK,aJ,aI,decide_eq_true_eq,beq_iff_eq,bne_iff_ne,ne_eq,Bool.and_eq_true,Bool.or_eq_true,Bool.not_eq_true',Bool.not_eq_true,decide_eq_false_iff_not,beq_eq_false_iff_ne,bne_eq_false_iff_eq,Int.toNat_add,Int.toNat_natCast,Int.reduceToNat,Int.zero_add,Int.add_zero,Nat.add_zero,Nat.zero_add,Bool.true_and,Bool.and_true,Bool.false_and,Bool.and_false,Bool.true_or,Bool.or_true,Bool.false_or,Bool.or_false,Bool.not_true,Bool.not_false,Bool.false_eq_true,Bool.true_eq_false,reduceCtorEq,not_true_eq_false,not_false_eq_true,if_true,if_false,decide_true,decide_false]; rfl
  ·
   rw [if_neg (show ¬ ((1 < n∧(s.getD i 0).toNat=48)∨n < m) from by omega)]
   have hb2:(if decide (((i + n:Nat):Int) < (s.length:Int)) then aA (idx s ((i + n:Nat):Int)) fun x2=>pG x2 else some false)=some false:=by
    by_cases h4:i + n < s.length
    ·
     simp (disch:=omega) only [letter_eq,dflt,bg,bq,bW,bf,bA,if_pos,if_neg,ak,aC,aB,aG,aH,aK,aJ,aI,decide_eq_true_eq,beq_iff_eq,bne_iff_ne,ne_eq,Bool.and_eq_true,Bool.or_eq_true,Bool.not_eq_true',Bool.not_eq_true,decide_eq_false_iff_not,beq_eq_false_iff_ne,bne_eq_false_iff_eq,Int.toNat_add,Int.toNat_natCast,Int.reduceToNat,Int.zero_add,Int.add_zero,Nat.add_zero,Nat.zero_add,Bool.true_and,Bool.and_true,Bool.false_and,Bool.and_false,Bool.true_or,Bool.or_true,Bool.false_or,Bool.or_false,Bool.not_true,Bool.not_false,Bool.false_eq_true,Bool.true_eq_false,reduceCtorEq,not_true_eq_false,not_false_eq_true,if_true,if_false,decide_true,decide_false]; cases hl:mK (s.getD (i + n) 0) with
     | false=>rfl
     | true=>
      exact absurd (hlt.2 ⟨_,by rw [NJ,List.getElem?_eq_getElem h4],by rw [List.getD_eq_getElem?_getD,List.getElem?_eq_getElem h4] at hl; exact hl⟩) hw
    · simp (disch:=omega) only [bg,bq,bW,bf,bA,if_pos,if_neg,ak,aC,aB,aG,aH,aK,aJ,aI,decide_eq_true_eq,beq_iff_eq,bne_iff_ne,ne_eq,Bool.and_eq_true,Bool.or_eq_true,Bool.not_eq_true',Bool.not_eq_true,decide_eq_false_iff_not,beq_eq_false_iff_ne,bne_eq_false_iff_eq,Int.toNat_add,Int.toNat_natCast,Int.reduceToNat,Int.zero_add,Int.add_zero,Nat.add_zero,Nat.zero_add,Bool.true_and,Bool.and_true,Bool.false_and,Bool.and_false,Bool.true_or,Bool.or_true,Bool.false_or,Bool.or_false,Bool.not_true,Bool.not_false,Bool.false_eq_true,Bool.true_eq_false,reduceCtorEq,not_true_eq_false,not_false_eq_true,if_true,if_false,decide_true,decide_false]
   have hb1:(if decide (1 < (n:Int)) then aA (idx ((s.drop i).take n) 0) fun x1=>some ((x1.toNat:Int) == 48) else some false)=some false:=by
    by_cases h1:1 < n
    ·
     simp (disch:=omega) only [e2,e3,dflt,bg,bq,bW,bf,bA,if_pos,if_neg,ak,aC,aB,aG,aH,aK,aJ,aI,decide_eq_true_eq,beq_iff_eq,bne_iff_ne,ne_eq,Bool.and_eq_true,Bool.or_eq_true,Bool.not_eq_true',Bool.not_eq_true,decide_eq_false_iff_not,beq_eq_false_iff_ne,bne_eq_false_iff_eq,Int.toNat_add,Int.toNat_natCast,Int.reduceToNat,Int.zero_add,Int.add_zero,Nat.add_zero,Nat.zero_add,Bool.true_and,Bool.and_true,Bool.false_and,Bool.and_false,Bool.true_or,Bool.or_true,Bool.false_or,Bool.or_false,Bool.not_true,Bool.not_false,Bool.false_eq_true,Bool.true_eq_false,reduceCtorEq,not_true_eq_false,not_false_eq_true,if_true,if_false,decide_true,decide_false]; simp only [Option.some.injEq,beq_eq_false_iff_ne]; omega
    · simp (disch:=omega) only [bg,bq,bW,bf,bA,if_pos,if_neg,ak,aC,aB,aG,aH,aK,aJ,aI,decide_eq_true_eq,beq_iff_eq,bne_iff_ne,ne_eq,Bool.and_eq_true,Bool.or_eq_true,Bool.not_eq_true',Bool.not_eq_true,decide_eq_false_iff_not,beq_eq_false_iff_ne,bne_eq_false_iff_eq,Int.toNat_add,Int.toNat_natCast,Int.reduceToNat,Int.zero_add,Int.add_zero,Nat.add_zero,Nat.zero_add,Bool.true_and,Bool.and_true,Bool.false_and,Bool.and_false,Bool.true_or,Bool.or_true,Bool.false_or,Bool.or_false,Bool.not_true,Bool.not_false,Bool.false_eq_true,Bool.true_eq_false,reduceCtorEq,not_true_eq_false,not_false_eq_true,if_true,if_false,decide_true,decide_false]
   rw [hb1,ak,if_neg (by simp),hb2]; simp (disch:=omega) only [XG (s:=(s.drop i).take n) (by rw [e2]; omega) htk,bg,bq,bW,bf,bA,if_pos,if_neg,ak,aC,aB,aG,aH,aK,aJ,aI,decide_eq_true_eq,beq_iff_eq,bne_iff_ne,ne_eq,Bool.and_eq_true,Bool.or_eq_true,Bool.not_eq_true',Bool.not_eq_true,decide_eq_false_iff_not,beq_eq_false_iff_ne,bne_eq_false_iff_eq,Int.toNat_add,Int.toNat_natCast,Int.reduceToNat,Int.zero_add,Int.add_zero,Nat.add_zero,Nat.zero_add,Bool.true_and,Bool.and_true,Bool.false_and,Bool.and_false,Bool.true_or,Bool.or_true,Bool.false_or,Bool.or_false,Bool.not_true,Bool.not_false,Bool.false_eq_true,Bool.true_eq_false,reduceCtorEq,not_true_eq_false,not_false_eq_true,if_true,if_false,decide_true,decide_false]; by_cases h6:Ao < val ((s.drop i).take n)
   · simp (disch:=omega) only [h6,bg,bq,bW,bf,bA,if_pos,if_neg,ak,aC,aB,aG,aH,aK,aJ,aI,decide_eq_true_eq,beq_iff_eq,bne_iff_ne,ne_eq,Bool.and_eq_true,Bool.or_eq_true,Bool.not_eq_true',Bool.not_eq_true,decide_eq_false_iff_not,beq_eq_false_iff_ne,bne_eq_false_iff_eq,Int.toNat_add,Int.toNat_natCast,Int.reduceToNat,Int.zero_add,Int.add_zero,Nat.add_zero,Nat.zero_add,Bool.true_and,Bool.and_true,Bool.false_and,Bool.and_false,Bool.true_or,Bool.or_true,Bool.false_or,Bool.or_false,Bool.not_true,Bool.not_false,Bool.false_eq_true,Bool.true_eq_false,reduceCtorEq,not_true_eq_false,not_false_eq_true,if_true,if_false,decide_true,decide_false]; rfl
   · simp (disch:=omega) only [h6,bg,bq,bW,bf,bA,if_pos,if_neg,ak,aC,aB,aG,aH,aK,aJ,aI,decide_eq_true_eq,beq_iff_eq,bne_iff_ne,ne_eq,Bool.and_eq_true,Bool.or_eq_true,Bool.not_eq_true',Bool.not_eq_true,decide_eq_false_iff_not,beq_eq_false_iff_ne,bne_eq_false_iff_eq,Int.toNat_add,Int.toNat_natCast,Int.reduceToNat,Int.zero_add,Int.add_zero,Nat.add_zero,Nat.zero_add,Bool.true_and,Bool.and_true,Bool.false_and,Bool.and_false,Bool.true_or,Bool.or_true,Bool.false_or,Bool.or_false,Bool.not_true,Bool.not_false,Bool.false_eq_true,Bool.true_eq_false,reduceCtorEq,not_true_eq_false,not_false_eq_true,if_true,if_false,decide_true,decide_false]; rfl
theorem Ny {s:Str} (hs:s.length≤2147483648) {i:Nat} (h:i < s.length):wR s (i:Int)=some (Z5 i (mq (s.drop i))):=by
 have hh:(s.drop i)=s.getD i 0 :: s.drop (i + 1):=getD_drop h; unfold wR; simp (disch:=omega) only [dflt,letter_eq,digit_eq,bg,bq,bW,bf,bA,if_pos,if_neg,ak,aC,aB,aG,aH,aK,aJ,aI,decide_eq_true_eq,beq_iff_eq,bne_iff_ne,ne_eq,Bool.and_eq_true,Bool.or_eq_true,Bool.not_eq_true',Bool.not_eq_true,decide_eq_false_iff_not,beq_eq_false_iff_ne,bne_eq_false_iff_eq,Int.toNat_add,Int.toNat_natCast,Int.reduceToNat,Int.zero_add,Int.add_zero,Nat.add_zero,Nat.zero_add,Bool.true_and,Bool.and_true,Bool.false_and,Bool.and_false,Bool.true_or,Bool.or_true,Bool.false_or,Bool.or_false,Bool.not_true,Bool.not_false,Bool.false_eq_true,Bool.true_eq_false,reduceCtorEq,not_true_eq_false,not_false_eq_true,if_true,if_false,decide_true,decide_false]; cases hl:mK (s.getD i 0) with
 | true=>
  have hd:isDigit (s.getD i 0)=false:=by
   rw [xX] at hl; cases hd:isDigit (s.getD i 0) with
   | false=>rfl
   | true=>rw [nO] at hd; omega
  have NI:¬ (s.getD i 0).toNat=34:=by rw [xX] at hl; omega
  rw [if_pos rfl,XE hs h,hh]; simp only [mq,hd,hl,NI,if_false,if_true,Bool.false_eq_true]
 | false=>
  rw [if_neg (by simp)]; cases hd:isDigit (s.getD i 0) with
  | true=>rw [if_pos rfl,SY hs h hd]
  | false=>
   rw [if_neg (by simp)]; by_cases NI:(s.getD i 0).toNat=34
   ·
    simp (disch:=omega) only [XC hs h,bg,bq,bW,bf,bA,if_pos,if_neg,ak,aC,aB,aG,aH,aK,aJ,aI,decide_eq_true_eq,beq_iff_eq,bne_iff_ne,ne_eq,Bool.and_eq_true,Bool.or_eq_true,Bool.not_eq_true',Bool.not_eq_true,decide_eq_false_iff_not,beq_eq_false_iff_ne,bne_eq_false_iff_eq,Int.toNat_add,Int.toNat_natCast,Int.reduceToNat,Int.zero_add,Int.add_zero,Nat.add_zero,Nat.zero_add,Bool.true_and,Bool.and_true,Bool.false_and,Bool.and_false,Bool.true_or,Bool.or_true,Bool.false_or,Bool.or_false,Bool.not_true,Bool.not_false,Bool.false_eq_true,Bool.true_eq_false,reduceCtorEq,not_true_eq_false,not_false_eq_true,if_true,if_false,decide_true,decide_false]; rw [hh]; simp only [mq,hd,NI,if_false,if_true,Bool.false_eq_true,SX,Z5]; split <;> simp_all
   ·
    simp (disch:=omega) only [abn hs h,bg,bq,bW,bf,bA,if_pos,if_neg,ak,aC,aB,aG,aH,aK,aJ,aI,decide_eq_true_eq,beq_iff_eq,bne_iff_ne,ne_eq,Bool.and_eq_true,Bool.or_eq_true,Bool.not_eq_true',Bool.not_eq_true,decide_eq_false_iff_not,beq_eq_false_iff_ne,bne_eq_false_iff_eq,Int.toNat_add,Int.toNat_natCast,Int.reduceToNat,Int.zero_add,Int.add_zero,Nat.add_zero,Nat.zero_add,Bool.true_and,Bool.and_true,Bool.false_and,Bool.and_false,Bool.true_or,Bool.or_true,Bool.false_or,Bool.or_false,Bool.not_true,Bool.not_false,Bool.false_eq_true,Bool.true_eq_false,reduceCtorEq,not_true_eq_false,not_false_eq_true,if_true,if_false,decide_true,decide_false]; rw [hh]; simp only [mq,hd,hl,NI,if_false,if_true,Bool.false_eq_true,Z5]; generalize opn (s.getD i 0 :: s.drop (i + 1))=n; by_cases ho:n=0
    · simp (disch:=omega) only [ho,bg,bq,bW,bf,bA,if_pos,if_neg,ak,aC,aB,aG,aH,aK,aJ,aI,decide_eq_true_eq,beq_iff_eq,bne_iff_ne,ne_eq,Bool.and_eq_true,Bool.or_eq_true,Bool.not_eq_true',Bool.not_eq_true,decide_eq_false_iff_not,beq_eq_false_iff_ne,bne_eq_false_iff_eq,Int.toNat_add,Int.toNat_natCast,Int.reduceToNat,Int.zero_add,Int.add_zero,Nat.add_zero,Nat.zero_add,Bool.true_and,Bool.and_true,Bool.false_and,Bool.and_false,Bool.true_or,Bool.or_true,Bool.false_or,Bool.or_false,Bool.not_true,Bool.not_false,Bool.false_eq_true,Bool.true_eq_false,reduceCtorEq,not_true_eq_false,not_false_eq_true,if_true,if_false,decide_true,decide_false]
    · simp (disch:=omega) only [ho,bg,bq,bW,bf,bA,if_pos,if_neg,ak,aC,aB,aG,aH,aK,aJ,aI,decide_eq_true_eq,beq_iff_eq,bne_iff_ne,ne_eq,Bool.and_eq_true,Bool.or_eq_true,Bool.not_eq_true',Bool.not_eq_true,decide_eq_false_iff_not,beq_eq_false_iff_ne,bne_eq_false_iff_eq,Int.toNat_add,Int.toNat_natCast,Int.reduceToNat,Int.zero_add,Int.add_zero,Nat.add_zero,Nat.zero_add,Bool.true_and,Bool.and_true,Bool.false_and,Bool.and_false,Bool.true_or,Bool.or_true,Bool.false_or,Bool.or_false,Bool.not_true,Bool.not_false,Bool.false_eq_true,Bool.true_eq_false,reduceCtorEq,not_true_eq_false,not_false_eq_true,if_true,if_false,decide_true,decide_false]
theorem SA {s:Str} (hs:s.length≤2147483648) {i:Nat} (h:i < s.length) (hd:isDigit (s.getD i 0)=true):yM s (i:Int)=some (rtk (mq (s.drop i))):=by
 have hle:=xL isDigit (s.drop i); rw [oQ] at hle; have htk:=G8 isDigit (s.drop i); have hpos:0 < span isDigit (s.drop i):=by rw [getD_drop h,ko,hd]; simp
 have hh:(s.drop i)=s.getD i 0 :: s.drop (i + 1):=getD_drop h
 have ht:mq (s.drop i)=if (1 < span isDigit (s.drop i)∧(s.getD i 0).toNat=48)∨span isDigit (s.drop i) < span isWord (s.drop i) then (0,[],0,5)
   else if Ao < val ((s.drop i).take (span isDigit (s.drop i))) then (0,[],0,2) else (2,(s.drop i).take (span isDigit (s.drop i)),span isDigit (s.drop i),0):=by
  rw [hh]; simp only [mq,hd,if_true]
 rw [ht]
 have hsl:∀ n,i + n≤s.length→sl s (i:Int) (bI ((i:Int) + (n:Int)))=some ((s.drop i).take n):=by
  intro n hn; simp (disch:=omega) only [bg,bq,bW,bf,bA,if_pos,if_neg,ak,aC,aB,aG,aH,aK,aJ,aI,decide_eq_true_eq,beq_iff_eq,bne_iff_ne,ne_eq,Bool.and_eq_true,Bool.or_eq_true,Bool.not_eq_true',Bool.not_eq_true,decide_eq_false_iff_not,beq_eq_false_iff_ne,bne_eq_false_iff_eq,Int.toNat_add,Int.toNat_natCast,Int.reduceToNat,Int.zero_add,Int.add_zero,Nat.add_zero,Nat.zero_add,Bool.true_and,Bool.and_true,Bool.false_and,Bool.and_false,Bool.true_or,Bool.or_true,Bool.false_or,Bool.or_false,Bool.not_true,Bool.not_false,Bool.false_eq_true,Bool.true_eq_false,reduceCtorEq,not_true_eq_false,not_false_eq_true,if_true,if_false,decide_true,decide_false]; rw [tQ]
 unfold yM; rw [VG (by omega) (by omega),TT (by omega) (by omega)]; have hsn:=hsl (span isDigit (s.drop i)) (by omega); generalize span isDigit (s.drop i)=n at hle htk hpos hsn ⊢; generalize span isWord (s.drop i)=m at ⊢; have e2:((s.drop i).take n).length=n:=by simp; omega
 have e3:((s.drop i).take n).getD 0 0=s.getD i 0:=by
  obtain ⟨k,rfl⟩:∃ k,n=k + 1:=⟨n - 1,by omega⟩; rw [hh]; rfl
 have hne:(s.drop i).take n≠[]:=fun h0=>by rw [h0] at e2; simp at e2; omega
 rw [ak,ak]; by_cases hw:n < m
 ·
  rw [if_pos (show (1 < n∧(s.getD i 0).toNat=48)∨n < m from .inr hw)]; simp (disch:=omega) only [bg,bq,bW,bf,bA,if_pos,if_neg,ak,aC,aB,aG,aH,aK,aJ,aI,decide_eq_true_eq,beq_iff_eq,bne_iff_ne,ne_eq,Bool.and_eq_true,Bool.or_eq_true,Bool.not_eq_true',Bool.not_eq_true,decide_eq_false_iff_not,beq_eq_false_iff_ne,bne_eq_false_iff_eq,Int.toNat_add,Int.toNat_natCast,Int.reduceToNat,Int.zero_add,Int.add_zero,Nat.add_zero,Nat.zero_add,Bool.true_and,Bool.and_true,Bool.false_and,Bool.and_false,Bool.true_or,Bool.or_true,Bool.false_or,Bool.or_false,Bool.not_true,Bool.not_false,Bool.false_eq_true,Bool.true_eq_false,reduceCtorEq,not_true_eq_false,not_false_eq_true,if_true,if_false,decide_true,decide_false]; rfl
 ·
  by_cases hz:1 < n∧(s.getD i 0).toNat=48
  ·
   rw [if_pos (show (1 < n∧(s.getD i 0).toNat=48)∨n < m from .inl hz)]; simp (disch:=omega) only [dflt,bg,bq,bW,bf,bA,if_pos,if_neg,ak,aC,aB,aG,aH,aK,aJ,aI,decide_eq_true_eq,beq_iff_eq,bne_iff_ne,ne_eq,Bool.and_eq_true,Bool.or_eq_true,Bool.not_eq_true',Bool.not_eq_true,decide_eq_false_iff_not,beq_eq_false_iff_ne,bne_eq_false_iff_eq,Int.toNat_add,Int.toNat_natCast,Int.reduceToNat,Int.zero_add,Int.add_zero,Nat.add_zero,Nat.zero_add,Bool.true_and,Bool.and_true,Bool.false_and,Bool.and_false,Bool.true_or,Bool.or_true,Bool.false_or,Bool.or_false,Bool.not_true,Bool.not_false,Bool.false_eq_true,Bool.true_eq_false,reduceCtorEq,not_true_eq_false,not_false_eq_true,if_true,if_false,decide_true,decide_false]; rfl
  ·
   rw [if_neg (show ¬ ((1 < n∧(s.getD i 0).toNat=48)∨n < m) from by omega)]
   have hb:(if decide ((n:Int) < (m:Int)) then some true else if decide (1 < (n:Int)) then aA (idx s (i:Int)) fun x2=>some ((x2.toNat:Int) == 48) else some false)=some false:=by
    by_cases h1:1 < n
    ·
     simp (disch:=omega) only [dflt,bg,bq,bW,bf,bA,if_pos,if_neg,ak,aC,aB,aG,aH,aK,aJ,aI,decide_eq_true_eq,beq_iff_eq,bne_iff_ne,ne_eq,Bool.and_eq_true,Bool.or_eq_true,Bool.not_eq_true',Bool.not_eq_true,decide_eq_false_iff_not,beq_eq_false_iff_ne,bne_eq_false_iff_eq,Int.toNat_add,Int.toNat_natCast,Int.reduceToNat,Int.zero_add,Int.add_zero,Nat.add_zero,Nat.zero_add,Bool.true_and,Bool.and_true,Bool.false_and,Bool.and_false,Bool.true_or,Bool.or_true,Bool.false_or,Bool.or_false,Bool.not_true,Bool.not_false,Bool.false_eq_true,Bool.true_eq_false,reduceCtorEq,not_true_eq_false,not_false_eq_true,if_true,if_false,decide_true,decide_false]; simp only [Option.some.injEq,beq_eq_false_iff_ne]; omega
    · simp (disch:=omega) only [bg,bq,bW,bf,bA,if_pos,if_neg,ak,aC,aB,aG,aH,aK,aJ,aI,decide_eq_true_eq,beq_iff_eq,bne_iff_ne,ne_eq,Bool.and_eq_true,Bool.or_eq_true,Bool.not_eq_true',Bool.not_eq_true,decide_eq_false_iff_not,beq_eq_false_iff_ne,bne_eq_false_iff_eq,Int.toNat_add,Int.toNat_natCast,Int.reduceToNat,Int.zero_add,Int.add_zero,Nat.add_zero,Nat.zero_add,Bool.true_and,Bool.and_true,Bool.false_and,Bool.and_false,Bool.true_or,Bool.or_true,Bool.false_or,Bool.or_false,Bool.not_true,Bool.not_false,Bool.false_eq_true,Bool.true_eq_false,reduceCtorEq,not_true_eq_false,not_false_eq_true,if_true,if_false,decide_true,decide_false]
   rw [hb,ak,hsn]; rw [if_neg (by simp),ak,Y8 htk hne,e2,e3]; by_cases h16:16 < n
   ·
    have hv:Ao < val ((s.drop i).take n):=by
     obtain ⟨k,rfl⟩:∃ k,n=k + 1:=⟨n - 1,by omega⟩; rw [hh,List.take_succ_cons]; refine Wu hd (by omega) ?_; simp [List.length_take]; omega
    rw [if_pos (show 16 < n∨(1 < n∧(s.getD i 0).toNat=48) from .inl h16),if_pos hv]; simp (disch:=omega) only [bg,bq,bW,bf,bA,if_pos,if_neg,ak,aC,aB,aG,aH,aK,aJ,aI,decide_eq_true_eq,beq_iff_eq,bne_iff_ne,ne_eq,Bool.and_eq_true,Bool.or_eq_true,Bool.not_eq_true',Bool.not_eq_true,decide_eq_false_iff_not,beq_eq_false_iff_ne,bne_eq_false_iff_eq,Int.toNat_add,Int.toNat_natCast,Int.reduceToNat,Int.zero_add,Int.add_zero,Nat.add_zero,Nat.zero_add,Bool.true_and,Bool.and_true,Bool.false_and,Bool.and_false,Bool.true_or,Bool.or_true,Bool.false_or,Bool.or_false,Bool.not_true,Bool.not_false,Bool.false_eq_true,Bool.true_eq_false,reduceCtorEq,not_true_eq_false,not_false_eq_true,if_true,if_false,decide_true,decide_false]; rfl
   ·
    rw [if_neg (show ¬ (16 < n∨(1 < n∧(s.getD i 0).toNat=48)) from by omega)]; by_cases h6:Ao < val ((s.drop i).take n)
    ·
     simp (disch:=omega) only [h6,bg,bq,bW,bf,bA,if_pos,if_neg,ak,aC,aB,aG,aH,aK,aJ,aI,decide_eq_true_eq,beq_iff_eq,bne_iff_ne,ne_eq,Bool.and_eq_true,Bool.or_eq_true,Bool.not_eq_true',Bool.not_eq_true,decide_eq_false_iff_not,beq_eq_false_iff_ne,bne_eq_false_iff_eq,Int.toNat_add,Int.toNat_natCast,Int.reduceToNat,Int.zero_add,Int.add_zero,Nat.add_zero,Nat.zero_add,Bool.true_and,Bool.and_true,Bool.false_and,Bool.and_false,Bool.true_or,Bool.or_true,Bool.false_or,Bool.or_false,Bool.not_true,Bool.not_false,Bool.false_eq_true,Bool.true_eq_false,reduceCtorEq,not_true_eq_false,not_false_eq_true,if_true,if_false,decide_true,decide_false]; rfl
    ·
     have h7:val ((s.drop i).take n)≤Ao:=by omega
     simp (disch:=omega) only [h6,h7,bg,bq,bW,bf,bA,if_pos,if_neg,ak,aC,aB,aG,aH,aK,aJ,aI,decide_eq_true_eq,beq_iff_eq,bne_iff_ne,ne_eq,Bool.and_eq_true,Bool.or_eq_true,Bool.not_eq_true',Bool.not_eq_true,decide_eq_false_iff_not,beq_eq_false_iff_ne,bne_eq_false_iff_eq,Int.toNat_add,Int.toNat_natCast,Int.reduceToNat,Int.zero_add,Int.add_zero,Nat.add_zero,Nat.zero_add,Bool.true_and,Bool.and_true,Bool.false_and,Bool.and_false,Bool.true_or,Bool.or_true,Bool.false_or,Bool.or_false,Bool.not_true,Bool.not_false,Bool.false_eq_true,Bool.true_eq_false,reduceCtorEq,not_true_eq_false,not_false_eq_true,if_true,if_false,decide_true,decide_false]; rfl
theorem G7 {c:UInt8} {l:Str}:span isWord (c :: l)=0↔isWord c=false:=by
 rw [ko]; cases isWord c <;> simp
theorem U3 {s:Str} (hs:s.length≤2147483648) {i:Nat} (h:i < s.length):AV s (i:Int)=some (rtk (mq (s.drop i))):=by
 have hh:(s.drop i)=s.getD i 0 :: s.drop (i + 1):=getD_drop h; unfold AV; simp (disch:=omega) only [dflt,Kr,Ay,bg,bq,bW,bf,bA,if_pos,if_neg,ak,aC,aB,aG,aH,aK,aJ,aI,decide_eq_true_eq,beq_iff_eq,bne_iff_ne,ne_eq,Bool.and_eq_true,Bool.or_eq_true,Bool.not_eq_true',Bool.not_eq_true,decide_eq_false_iff_not,beq_eq_false_iff_ne,bne_eq_false_iff_eq,Int.toNat_add,Int.toNat_natCast,Int.reduceToNat,Int.zero_add,Int.add_zero,Nat.add_zero,Nat.zero_add,Bool.true_and,Bool.and_true,Bool.false_and,Bool.and_false,Bool.true_or,Bool.or_true,Bool.false_or,Bool.or_false,Bool.not_true,Bool.not_false,Bool.false_eq_true,Bool.true_eq_false,reduceCtorEq,not_true_eq_false,not_false_eq_true,if_true,if_false,decide_true,decide_false]; cases hd:isDigit (s.getD i 0) with
 | true=>rw [if_pos rfl,SA hs h hd]
 | false=>
  rw [if_neg (by simp)]; by_cases NI:(s.getD i 0).toNat=34
  ·
   simp (disch:=omega) only [WW hs h,bg,bq,bW,bf,bA,if_pos,if_neg,ak,aC,aB,aG,aH,aK,aJ,aI,decide_eq_true_eq,beq_iff_eq,bne_iff_ne,ne_eq,Bool.and_eq_true,Bool.or_eq_true,Bool.not_eq_true',Bool.not_eq_true,decide_eq_false_iff_not,beq_eq_false_iff_ne,bne_eq_false_iff_eq,Int.toNat_add,Int.toNat_natCast,Int.reduceToNat,Int.zero_add,Int.add_zero,Nat.add_zero,Nat.zero_add,Bool.true_and,Bool.and_true,Bool.false_and,Bool.and_false,Bool.true_or,Bool.or_true,Bool.false_or,Bool.or_false,Bool.not_true,Bool.not_false,Bool.false_eq_true,Bool.true_eq_false,reduceCtorEq,not_true_eq_false,not_false_eq_true,if_true,if_false,decide_true,decide_false]; rw [hh]; simp only [mq,hd,NI,if_false,if_true,Bool.false_eq_true,U4,rtk]; split <;> simp_all
  ·
   have hwl:=xL isWord (s.drop i); rw [oQ] at hwl; simp (disch:=omega) only [TT (s:=s) (by omega) (Nat.le_of_lt h),bg,bq,bW,bf,bA,if_pos,if_neg,ak,aC,aB,aG,aH,aK,aJ,aI,decide_eq_true_eq,beq_iff_eq,bne_iff_ne,ne_eq,Bool.and_eq_true,Bool.or_eq_true,Bool.not_eq_true',Bool.not_eq_true,decide_eq_false_iff_not,beq_eq_false_iff_ne,bne_eq_false_iff_eq,Int.toNat_add,Int.toNat_natCast,Int.reduceToNat,Int.zero_add,Int.add_zero,Nat.add_zero,Nat.zero_add,Bool.true_and,Bool.and_true,Bool.false_and,Bool.and_false,Bool.true_or,Bool.or_true,Bool.false_or,Bool.or_false,Bool.not_true,Bool.not_false,Bool.false_eq_true,Bool.true_eq_false,reduceCtorEq,not_true_eq_false,not_false_eq_true,if_true,if_false,decide_true,decide_false]
   have hsl:∀ n,i + n≤s.length→sl s (i:Int) (bI ((i:Int) + (n:Int)))=some ((s.drop i).take n):=by
    intro n hn; simp (disch:=omega) only [bg,bq,bW,bf,bA,if_pos,if_neg,ak,aC,aB,aG,aH,aK,aJ,aI,decide_eq_true_eq,beq_iff_eq,bne_iff_ne,ne_eq,Bool.and_eq_true,Bool.or_eq_true,Bool.not_eq_true',Bool.not_eq_true,decide_eq_false_iff_not,beq_eq_false_iff_ne,bne_eq_false_iff_eq,Int.toNat_add,Int.toNat_natCast,Int.reduceToNat,Int.zero_add,Int.add_zero,Nat.add_zero,Nat.zero_add,Bool.true_and,Bool.and_true,Bool.false_and,Bool.and_false,Bool.true_or,Bool.or_true,Bool.false_or,Bool.or_false,Bool.not_true,Bool.not_false,Bool.false_eq_true,Bool.true_eq_false,reduceCtorEq,not_true_eq_false,not_false_eq_true,if_true,if_false,decide_true,decide_false]; rw [tQ]
   cases hl:mK (s.getD i 0) with
   | true=>
    have hpos:0 < span isWord (s.drop i):=by rw [hh,ko,isWord,hl]; simp
    have hsn:=hsl _ (show i + span isWord (s.drop i)≤s.length from by omega)
    have ht:mq (s.drop i)=if 64 < span isWord (s.drop i) then (0,[],0,3) else (1,(s.drop i).take (span isWord (s.drop i)),span isWord (s.drop i),0):=by
     rw [hh]; simp only [mq,hd,hl,NI,if_false,if_true,Bool.false_eq_true]
    rw [ht]; generalize span isWord (s.drop i)=n at *; by_cases h64:64 < n
    · simp (disch:=omega) only [bg,bq,bW,bf,bA,if_pos,if_neg,ak,aC,aB,aG,aH,aK,aJ,aI,decide_eq_true_eq,beq_iff_eq,bne_iff_ne,ne_eq,Bool.and_eq_true,Bool.or_eq_true,Bool.not_eq_true',Bool.not_eq_true,decide_eq_false_iff_not,beq_eq_false_iff_ne,bne_eq_false_iff_eq,Int.toNat_add,Int.toNat_natCast,Int.reduceToNat,Int.zero_add,Int.add_zero,Nat.add_zero,Nat.zero_add,Bool.true_and,Bool.and_true,Bool.false_and,Bool.and_false,Bool.true_or,Bool.or_true,Bool.false_or,Bool.or_false,Bool.not_true,Bool.not_false,Bool.false_eq_true,Bool.true_eq_false,reduceCtorEq,not_true_eq_false,not_false_eq_true,if_true,if_false,decide_true,decide_false]; rfl
    · simp (disch:=omega) only [bg,bq,bW,bf,bA,if_pos,if_neg,ak,aC,aB,aG,aH,aK,aJ,aI,decide_eq_true_eq,beq_iff_eq,bne_iff_ne,ne_eq,Bool.and_eq_true,Bool.or_eq_true,Bool.not_eq_true',Bool.not_eq_true,decide_eq_false_iff_not,beq_eq_false_iff_ne,bne_eq_false_iff_eq,Int.toNat_add,Int.toNat_natCast,Int.reduceToNat,Int.zero_add,Int.add_zero,Nat.add_zero,Nat.zero_add,Bool.true_and,Bool.and_true,Bool.false_and,Bool.and_false,Bool.true_or,Bool.or_true,Bool.false_or,Bool.or_false,Bool.not_true,Bool.not_false,Bool.false_eq_true,Bool.true_eq_false,reduceCtorEq,not_true_eq_false,not_false_eq_true,if_true,if_false,decide_true,decide_false]; rw [tQ]; rfl
   | false=>
    have h0:span isWord (s.drop i)=0:=by rw [hh,G7,isWord,hl,hd]; rfl
    have hol:opn (s.drop i)≤(s.drop i).length:=by
     rw [hh]; cases s.drop (i + 1) with
     | nil=>simp only [opn]; split <;> simp
     | cons b r=>simp only [opn]; (repeat' split) <;> simp
    rw [oQ] at hol; have hsn:=hsl _ (show i + opn (s.drop i)≤s.length from by omega)
    have ht:mq (s.drop i)=if opn (s.drop i)=0 then (0,[],0,5) else (4,(s.drop i).take (opn (s.drop i)),opn (s.drop i),0):=by
     rw [hh]; simp only [mq,hd,hl,NI,if_false,if_true,Bool.false_eq_true]
    rw [ht,h0]; simp (disch:=omega) only [aaw hs h,bg,bq,bW,bf,bA,if_pos,if_neg,ak,aC,aB,aG,aH,aK,aJ,aI,decide_eq_true_eq,beq_iff_eq,bne_iff_ne,ne_eq,Bool.and_eq_true,Bool.or_eq_true,Bool.not_eq_true',Bool.not_eq_true,decide_eq_false_iff_not,beq_eq_false_iff_ne,bne_eq_false_iff_eq,Int.toNat_add,Int.toNat_natCast,Int.reduceToNat,Int.zero_add,Int.add_zero,Nat.add_zero,Nat.zero_add,Bool.true_and,Bool.and_true,Bool.false_and,Bool.and_false,Bool.true_or,Bool.or_true,Bool.false_or,Bool.or_false,Bool.not_true,Bool.not_false,Bool.false_eq_true,Bool.true_eq_false,reduceCtorEq,not_true_eq_false,not_false_eq_true,if_true,if_false,decide_true,decide_false]; generalize opn (s.drop i)=n at *; by_cases ho:n=0
    · simp (disch:=omega) only [bg,bq,bW,bf,bA,if_pos,if_neg,ak,aC,aB,aG,aH,aK,aJ,aI,decide_eq_true_eq,beq_iff_eq,bne_iff_ne,ne_eq,Bool.and_eq_true,Bool.or_eq_true,Bool.not_eq_true',Bool.not_eq_true,decide_eq_false_iff_not,beq_eq_false_iff_ne,bne_eq_false_iff_eq,Int.toNat_add,Int.toNat_natCast,Int.reduceToNat,Int.zero_add,Int.add_zero,Nat.add_zero,Nat.zero_add,Bool.true_and,Bool.and_true,Bool.false_and,Bool.and_false,Bool.true_or,Bool.or_true,Bool.false_or,Bool.or_false,Bool.not_true,Bool.not_false,Bool.false_eq_true,Bool.true_eq_false,reduceCtorEq,not_true_eq_false,not_false_eq_true,if_true,if_false,decide_true,decide_false]; rfl
    · simp (disch:=omega) only [bg,bq,bW,bf,bA,if_pos,if_neg,ak,aC,aB,aG,aH,aK,aJ,aI,decide_eq_true_eq,beq_iff_eq,bne_iff_ne,ne_eq,Bool.and_eq_true,Bool.or_eq_true,Bool.not_eq_true',Bool.not_eq_true,decide_eq_false_iff_not,beq_eq_false_iff_ne,bne_eq_false_iff_eq,Int.toNat_add,Int.toNat_natCast,Int.reduceToNat,Int.zero_add,Int.add_zero,Nat.add_zero,Nat.zero_add,Bool.true_and,Bool.and_true,Bool.false_and,Bool.and_false,Bool.true_or,Bool.or_true,Bool.false_or,Bool.or_false,Bool.not_true,Bool.not_false,Bool.false_eq_true,Bool.true_eq_false,reduceCtorEq,not_true_eq_false,not_false_eq_true,if_true,if_false,decide_true,decide_false]; rw [tQ]; rfl
end Go.Ft
namespace Go.Ft
open Go
attribute [local congr] iH
theorem XT (s:Str) (i:Nat):(ByteArray.mk s.toArray).get! i=s.getD i 0:=by
 unfold ByteArray.get!; simp [getElem!_def]; rfl
theorem size_mk' (s:Str):(ByteArray.mk s.toArray).size=s.length:=by simp [ByteArray.size]
theorem dec_lt {s:Str} {p:Nat} (hc:(s.getD p 0).toNat < 128):dec s p=((s.getD p 0).toNat,1):=by
 unfold dec Utf8.decode; simp only [XT,Nat.add_zero]; rw [if_pos hc]
theorem Tn {s:Str} {p:Nat} (h:p < s.length) (hc:128≤(s.getD p 0).toNat):
  128≤(dec s p).1∧1≤(dec s p).2∧p + (dec s p).2≤s.length∧∀ j,1≤j→j < (dec s p).2→128≤(s.getD (p + j) 0).toNat:=by
 unfold dec Utf8.decode; simp only [XT,Nat.add_zero,size_mk',Utf8.runeError]; rw [if_neg (by omega)]
 repeat' split
 all_goals (rename_i h1; simp only [Bool.and_eq_true,decide_eq_true_eq,beq_iff_eq] at *)
 all_goals refine ⟨by (try simp only); omega,by (try simp only); omega,by (try simp only); omega,fun j h2 h3=>?_⟩
 all_goals (try simp only at h3)
 all_goals try (exfalso; omega)
 all_goals
  rcases Nat.lt_or_ge j 2 with g1 | g1
  ·
   have e:j=1:=Nat.le_antisymm (Nat.le_of_lt_succ g1) h2; subst e; omega
  ·
   rcases Nat.lt_or_ge j 3 with g2 | g2
   ·
    have e:j=2:=Nat.le_antisymm (Nat.le_of_lt_succ g2) g1; subst e; omega
   ·
    have e:j=3∨4≤j:=by omega
    rcases e with e | e
    ·
     subst e; omega
    · omega
def Bd (s:Str) (n:Nat):Prop:=n=s.length∨(s.getD n 0).toNat < 128∨(0 < n∧(s.getD (n - 1) 0).toNat < 128)
theorem X3 {s:Str} {p n:Nat} (h:p < n) (hn:n≤s.length) (hb:Bd s n):p + (dec s p).2≤n:=by
 rcases Nat.lt_or_ge (s.getD p 0).toNat 128 with hc | hc
 · rw [dec_lt hc]; omega
 ·
  obtain ⟨_,h1,h2,h3⟩:=Tn (by omega:p < s.length) hc; rcases Nat.lt_or_ge n (p + (dec s p).2) with hlt | hge
  ·
   exfalso; have a1:=h3 (n - p) (by omega) (by omega); rw [show p + (n - p)=n from by omega] at a1; rcases hb with hb | hb | ⟨hb0,hb⟩
   · omega
   · omega
   ·
    by_cases e:n - 1=p
    · rw [e] at hb; omega
    ·
     have a2:=h3 (n - 1 - p) (by omega) (by omega); rw [show p + (n - 1 - p)=n - 1 from by omega] at a2; omega
  · exact hge
def qB (c:UInt8):Bool:=(c.toNat:Int) != 10
@[simp] theorem acW (c:UInt8):qQ c=some (qB c):=rfl
@[simp] theorem RV (r:Int):uR r=some ((r == 32) || (r == 9)):=rfl
def Vj (t:Str) (o:Nat):Nat:=if t=[40]∨t=[91] then o + 1 else if t=[41]∨t=[93] then o - 1 else o
theorem RU (t:Str) (o:Nat) (h:o < 4611686018427387904):qP t (o:Int)=some ((Vj t o:Nat):Int):=by
 unfold qP Vj; by_cases h1:t=[40]
 · subst h1; simp (disch:=omega) only [bg,bq,bW,bf,bA,if_pos,if_neg,ak,aC,aB,aG,aH,aK,aJ,aI,decide_eq_true_eq,beq_iff_eq,bne_iff_ne,ne_eq,Bool.and_eq_true,Bool.or_eq_true,Bool.not_eq_true',Bool.not_eq_true,decide_eq_false_iff_not,beq_eq_false_iff_ne,bne_eq_false_iff_eq,Int.toNat_add,Int.toNat_natCast,Int.reduceToNat,Int.zero_add,Int.add_zero,Nat.add_zero,Nat.zero_add,Bool.true_and,Bool.and_true,Bool.false_and,Bool.and_false,Bool.true_or,Bool.or_true,Bool.false_or,Bool.or_false,Bool.not_true,Bool.not_false,Bool.false_eq_true,Bool.true_eq_false,reduceCtorEq,not_true_eq_false,not_false_eq_true,if_true,if_false,decide_true,decide_false]; simp
 ·
  by_cases h2:t=[91]
  · subst h2; simp (disch:=omega) only [bg,bq,bW,bf,bA,if_pos,if_neg,ak,aC,aB,aG,aH,aK,aJ,aI,decide_eq_true_eq,beq_iff_eq,bne_iff_ne,ne_eq,Bool.and_eq_true,Bool.or_eq_true,Bool.not_eq_true',Bool.not_eq_true,decide_eq_false_iff_not,beq_eq_false_iff_ne,bne_eq_false_iff_eq,Int.toNat_add,Int.toNat_natCast,Int.reduceToNat,Int.zero_add,Int.add_zero,Nat.add_zero,Nat.zero_add,Bool.true_and,Bool.and_true,Bool.false_and,Bool.and_false,Bool.true_or,Bool.or_true,Bool.false_or,Bool.or_false,Bool.not_true,Bool.not_false,Bool.false_eq_true,Bool.true_eq_false,reduceCtorEq,not_true_eq_false,not_false_eq_true,if_true,if_false,decide_true,decide_false]; simp
  ·
   by_cases h3:t=[41]
   ·
    subst h3; simp (disch:=omega) only [bg,bq,bW,bf,bA,if_pos,if_neg,ak,aC,aB,aG,aH,aK,aJ,aI,decide_eq_true_eq,beq_iff_eq,bne_iff_ne,ne_eq,Bool.and_eq_true,Bool.or_eq_true,Bool.not_eq_true',Bool.not_eq_true,decide_eq_false_iff_not,beq_eq_false_iff_ne,bne_eq_false_iff_eq,Int.toNat_add,Int.toNat_natCast,Int.reduceToNat,Int.zero_add,Int.add_zero,Nat.add_zero,Nat.zero_add,Bool.true_and,Bool.and_true,Bool.false_and,Bool.and_false,Bool.true_or,Bool.or_true,Bool.false_or,Bool.or_false,Bool.not_true,Bool.not_false,Bool.false_eq_true,Bool.true_eq_false,reduceCtorEq,not_true_eq_false,not_false_eq_true,if_true,if_false,decide_true,decide_false]; by_cases h4:1 < o
    · rw [if_pos (by omega)]; simp; omega
    · rw [if_neg (by omega)]; simp; omega
   ·
    by_cases h4:t=[93]
    ·
     subst h4; simp (disch:=omega) only [bg,bq,bW,bf,bA,if_pos,if_neg,ak,aC,aB,aG,aH,aK,aJ,aI,decide_eq_true_eq,beq_iff_eq,bne_iff_ne,ne_eq,Bool.and_eq_true,Bool.or_eq_true,Bool.not_eq_true',Bool.not_eq_true,decide_eq_false_iff_not,beq_eq_false_iff_ne,bne_eq_false_iff_eq,Int.toNat_add,Int.toNat_natCast,Int.reduceToNat,Int.zero_add,Int.add_zero,Nat.add_zero,Nat.zero_add,Bool.true_and,Bool.and_true,Bool.false_and,Bool.and_false,Bool.true_or,Bool.or_true,Bool.false_or,Bool.or_false,Bool.not_true,Bool.not_false,Bool.false_eq_true,Bool.true_eq_false,reduceCtorEq,not_true_eq_false,not_false_eq_true,if_true,if_false,decide_true,decide_false]; by_cases h4:1 < o
     · rw [if_pos (by omega)]; simp; omega
     · rw [if_neg (by omega)]; simp; omega
    · simp [h1,h2,h3,h4]
theorem Nu (k:au) (o:Nat) (h:o < 4611686018427387904):pq (o:Int) k=some (((if k.kind=4 then Vj k.text o else o:Nat)):Int):=by
 unfold pq Vj; by_cases hk:k.kind=4
 ·
  rw [hk]; by_cases h1:k.text=[40]
  · rw [h1]; simp (disch:=omega) only [bg,bq,bW,bf,bA,if_pos,if_neg,ak,aC,aB,aG,aH,aK,aJ,aI,decide_eq_true_eq,beq_iff_eq,bne_iff_ne,ne_eq,Bool.and_eq_true,Bool.or_eq_true,Bool.not_eq_true',Bool.not_eq_true,decide_eq_false_iff_not,beq_eq_false_iff_ne,bne_eq_false_iff_eq,Int.toNat_add,Int.toNat_natCast,Int.reduceToNat,Int.zero_add,Int.add_zero,Nat.add_zero,Nat.zero_add,Bool.true_and,Bool.and_true,Bool.false_and,Bool.and_false,Bool.true_or,Bool.or_true,Bool.false_or,Bool.or_false,Bool.not_true,Bool.not_false,Bool.false_eq_true,Bool.true_eq_false,reduceCtorEq,not_true_eq_false,not_false_eq_true,if_true,if_false,decide_true,decide_false]; simp
  ·
   by_cases h2:k.text=[91]
   · rw [h2]; simp (disch:=omega) only [bg,bq,bW,bf,bA,if_pos,if_neg,ak,aC,aB,aG,aH,aK,aJ,aI,decide_eq_true_eq,beq_iff_eq,bne_iff_ne,ne_eq,Bool.and_eq_true,Bool.or_eq_true,Bool.not_eq_true',Bool.not_eq_true,decide_eq_false_iff_not,beq_eq_false_iff_ne,bne_eq_false_iff_eq,Int.toNat_add,Int.toNat_natCast,Int.reduceToNat,Int.zero_add,Int.add_zero,Nat.add_zero,Nat.zero_add,Bool.true_and,Bool.and_true,Bool.false_and,Bool.and_false,Bool.true_or,Bool.or_true,Bool.false_or,Bool.or_false,Bool.not_true,Bool.not_false,Bool.false_eq_true,Bool.true_eq_false,reduceCtorEq,not_true_eq_false,not_false_eq_true,if_true,if_false,decide_true,decide_false]; simp
   ·
    by_cases h3:k.text=[41]
    ·
     rw [h3]; by_cases h4:0 < o
     ·
      have:decide ((0:Int) < (o:Int))=true:=by simp; omega
      rw [this]; simp (disch:=omega) only [bg,bq,bW,bf,bA,if_pos,if_neg,ak,aC,aB,aG,aH,aK,aJ,aI,decide_eq_true_eq,beq_iff_eq,bne_iff_ne,ne_eq,Bool.and_eq_true,Bool.or_eq_true,Bool.not_eq_true',Bool.not_eq_true,decide_eq_false_iff_not,beq_eq_false_iff_ne,bne_eq_false_iff_eq,Int.toNat_add,Int.toNat_natCast,Int.reduceToNat,Int.zero_add,Int.add_zero,Nat.add_zero,Nat.zero_add,Bool.true_and,Bool.and_true,Bool.false_and,Bool.and_false,Bool.true_or,Bool.or_true,Bool.false_or,Bool.or_false,Bool.not_true,Bool.not_false,Bool.false_eq_true,Bool.true_eq_false,reduceCtorEq,not_true_eq_false,not_false_eq_true,if_true,if_false,decide_true,decide_false]; simp; omega
     ·
      have:decide ((0:Int) < (o:Int))=false:=by simp; omega
      rw [this]; simp; omega
    ·
     by_cases h4:k.text=[93]
     ·
      rw [h4]; by_cases h5:0 < o
      ·
       have:decide ((0:Int) < (o:Int))=true:=by simp; omega
       rw [this]; simp (disch:=omega) only [bg,bq,bW,bf,bA,if_pos,if_neg,ak,aC,aB,aG,aH,aK,aJ,aI,decide_eq_true_eq,beq_iff_eq,bne_iff_ne,ne_eq,Bool.and_eq_true,Bool.or_eq_true,Bool.not_eq_true',Bool.not_eq_true,decide_eq_false_iff_not,beq_eq_false_iff_ne,bne_eq_false_iff_eq,Int.toNat_add,Int.toNat_natCast,Int.reduceToNat,Int.zero_add,Int.add_zero,Nat.add_zero,Nat.zero_add,Bool.true_and,Bool.and_true,Bool.false_and,Bool.and_false,Bool.true_or,Bool.or_true,Bool.false_or,Bool.or_false,Bool.not_true,Bool.not_false,Bool.false_eq_true,Bool.true_eq_false,reduceCtorEq,not_true_eq_false,not_false_eq_true,if_true,if_false,decide_true,decide_false]; simp; omega
      ·
       have:decide ((0:Int) < (o:Int))=false:=by simp; omega
       rw [this]; simp; omega
     · simp [h1,h2,h3,h4]
 · simp [hk]
def scan :Nat→Nat→Nat→Bool→Str→List au × Option (Nat × Int)
 | _,_,_,_,[]=>([],none)
 | k + 1,p,o,nl,_ :: r=>scan k (p + 1) o nl r
 | 0,p,o,nl,c :: r=>
  if c.toNat=32∨c.toNat=9 then scan 0 (p + 1) o nl r
  else if c.toNat=35 then scan (span qB r) (p + 1) o nl r
  else if c.toNat=10 then (if o=0∧nl=false then (⟨5,[],p⟩ :: (scan 0 (p + 1) o true r).1,(scan 0 (p + 1) o true r).2) else scan 0 (p + 1) o nl r)
  else if (mq (c :: r)).2.2.2=0 then
   (⟨(mq (c :: r)).1,(mq (c :: r)).2.1,p⟩ :: (scan ((mq (c :: r)).2.2.1 - 1) (p + 1) (if (mq (c :: r)).1=4 then Vj (mq (c :: r)).2.1 o else o) false r).1,
    (scan ((mq (c :: r)).2.2.1 - 1) (p + 1) (if (mq (c :: r)).1=4 then Vj (mq (c :: r)).2.1 o else o) false r).2)
  else ([],some (p,(mq (c :: r)).2.2.2))
theorem Ea :∀ (j a p o:Nat) (nl:Bool) (r:Str),j≤r.length→scan (a + j) p o nl r=scan a (p + j) o nl (r.drop j)
 | 0,a,p,o,nl,r,_=>rfl
 | j + 1,a,p,o,nl,[],h=>by simp at h
 | j + 1,a,p,o,nl,c :: r,h=>by
  rw [show a + (j + 1)=(a + j) + 1 from rfl,scan,Ea j a (p + 1) o nl r (by simpa using h),List.drop_succ_cons]; rw [show p + 1 + j=p + (j + 1) from by omega]
def fin (out:List au) (x:List au × Option (Nat × Int)):List au × Int × Int:=
 match x.2 with
 | none=>(out ++ x.1,0,0)
 | some (p,e)=>([],(p:Int),e)
def E8 (out:List au):Bool:=match out.getLast? with | some t=>t.kind == 5 | none=>false
theorem Dl (out:List au) (t:au):E8 (out ++ [t])=(t.kind == 5):=by simp [E8]
theorem Dw (out:List au) (t:au) (x:List au × Option (Nat × Int)):fin out (t :: x.1,x.2)=fin (out ++ [t]) x:=by
 unfold fin; cases x.2 <;> simp
theorem P8 :∀ (N:Nat) (r b:Str) (m:Nat),r.length≤N→(txt 0 b m r).2.2=0→m < (txt 0 b m r).2.1∧(txt 0 b m r).2.1≤m + r.length∧(r.getD ((txt 0 b m r).2.1 - m - 1) 0).toNat=34
 | N,[],b,m,_,h=>by simp [txt] at h
 | 0,c :: r,b,m,hN,h=>by simp at hN
 | N + 1,c :: r,b,m,hN,h=>by
  rw [Ke] at h ⊢; by_cases NI:c.toNat=34
  ·
   rw [if_pos NI] at h ⊢; by_cases hl:4096 < b.length
   · rw [if_pos hl] at h; simp at h
   ·
    rw [if_neg hl]; simp only [List.length_cons]; refine ⟨by omega,by omega,?_⟩; rw [show m + 1 - m - 1=0 from by omega]; exact NI
  ·
   rw [if_neg NI] at h ⊢; by_cases he:(chr (c :: r)).2.2=0
   ·
    rw [if_pos he] at h ⊢; obtain ⟨n1,n2⟩:=UF he; generalize (chr (c :: r)).2.1=n at n1 n2 h ⊢; have hlen:((c :: r).drop n).length=r.length + 1 - n:=by simp
    have ih:=P8 N ((c :: r).drop n) (b ++ [(chr (c :: r)).1]) (m + n) (by rw [hlen]; simp at hN n2; omega) h; rw [hlen] at ih; simp only [List.length_cons] at n2 ⊢; refine ⟨by omega,by omega,?_⟩; have h3:=ih.2.2; rw [List.getD_eq_getElem?_getD,List.getElem?_drop] at h3; rw [List.getD_eq_getElem?_getD]; rw [show n + ((txt 0 (b ++ [(chr (c :: r)).1]) (m + n) ((c :: r).drop n)).2.1 - (m + n) - 1)=(txt 0 (b ++ [(chr (c :: r)).1]) (m + n) ((c :: r).drop n)).2.1 - m - 1 from by omega] at h3; exact h3
   · rw [if_neg he] at h; exact absurd h he
theorem Nk (p:UInt8→Bool) (l:Str) {i:Nat} (h:i < span p l):p (l.getD i 0)=true:=by
 have h2:=xL p l
 have:=G8 p l (l.getD i 0) (by
  rw [List.mem_take_iff_getElem]
  exact ⟨i,by omega,by rw [List.getD_eq_getElem?_getD,List.getElem?_eq_getElem (by omega),Option.getD_some]⟩)
 exact this
theorem abj (l:Str):opn l≤l.length:=by
 match l with
 | []=>simp [opn]
 | [a]=>simp only [opn]; split <;> simp
 | a :: b :: r=>simp only [opn]; (repeat' split) <;> simp
theorem BP {a:UInt8} (h:zw [a]=true):a.toNat < 128:=by
 simp only [zw,Bool.or_eq_true,beq_iff_eq,List.cons.injEq,and_true,reduceCtorEq,and_false,false_or] at h; have:a=60∨a=62∨a=43∨a=45∨a=42∨a=47∨a=37∨a=33∨a=63∨a=58∨a=46∨a=44∨a=61∨a=40∨a=41∨a=91∨a=93∨a=123∨a=125:=h; rcases this with rfl | rfl | rfl | rfl | rfl | rfl | rfl | rfl | rfl | rfl | rfl | rfl | rfl | rfl | rfl | rfl | rfl | rfl | rfl <;> decide
theorem IX {a b:UInt8} (h:zw [a,b]=true):a.toNat < 128∧b.toNat < 128:=by
 simp only [zw,Bool.or_eq_true,beq_iff_eq,List.cons.injEq,and_true,reduceCtorEq,and_false,or_false] at h; rcases h with ⟨rfl,rfl⟩ | ⟨rfl,rfl⟩ | ⟨rfl,rfl⟩ | ⟨rfl,rfl⟩ | ⟨rfl,rfl⟩ | ⟨rfl,rfl⟩ <;> decide
theorem GZ {c:UInt8} {r:Str} (h:(mq (c :: r)).2.2.2=0):1≤(mq (c :: r)).2.2.1∧(mq (c :: r)).2.2.1≤r.length + 1∧((c :: r).getD ((mq (c :: r)).2.2.1 - 1) 0).toNat < 128∧c.toNat < 128:=by
 simp only [mq] at h ⊢; by_cases hd:isDigit c=true
 ·
  rw [if_pos hd] at h ⊢; have hpos:0 < span isDigit (c :: r):=by rw [ko,hd]; simp
  have hle:=xL isDigit (c :: r); have hg:=Nk isDigit (c :: r) (i:=span isDigit (c :: r) - 1) (by omega); rw [nO] at hd hg; by_cases h1:(1 < span isDigit (c :: r)∧c.toNat=48)∨span isDigit (c :: r) < span isWord (c :: r)
  · rw [if_pos h1] at h; simp at h
  ·
   rw [if_neg h1] at h ⊢; by_cases h2:Ao < val ((c :: r).take (span isDigit (c :: r)))
   · rw [if_pos h2] at h; simp at h
   ·
    rw [if_neg h2]; simp only [List.length_cons] at hle; have hg2:((c :: r).getD (span isDigit (c :: r) - 1) 0).toNat < 128:=by omega
    exact ⟨hpos,hle,hg2,by omega⟩
 ·
  rw [if_neg hd] at h ⊢; by_cases NI:c.toNat=34
  ·
   rw [if_pos NI] at h ⊢; by_cases he:(txt 0 [] 1 r).2.2=0
   ·
    rw [if_pos he]; obtain ⟨a1,a2,a3⟩:=P8 r.length r [] 1 (Nat.le_refl _) he; refine ⟨by simp only; omega,by simp only; omega,?_,by omega⟩; simp only; obtain ⟨q,hq⟩:∃ q,(txt 0 [] 1 r).2.1=q + 2:=⟨(txt 0 [] 1 r).2.1 - 2,by omega⟩; rw [hq] at a3 ⊢; have a3:(r.getD q 0).toNat=34:=a3; show ((c :: r).getD (q + 1) 0).toNat < 128; rw [List.getD_cons_succ]; omega
   · rw [if_neg he] at h; exact absurd h he
  ·
   rw [if_neg NI] at h ⊢; by_cases hl:mK c=true
   ·
    rw [if_pos hl] at h ⊢; have hpos:0 < span isWord (c :: r):=by rw [ko,isWord,hl]; simp
    have hle:=xL isWord (c :: r); have hg:=Nk isWord (c :: r) (i:=span isWord (c :: r) - 1) (by omega); rw [xX] at hl; simp only [isWord,Bool.or_eq_true,xX,nO] at hg; by_cases h2:64 < span isWord (c :: r)
    · rw [if_pos h2] at h; simp at h
    ·
     rw [if_neg h2]; simp only [List.length_cons] at hle; have hg2:((c :: r).getD (span isWord (c :: r) - 1) 0).toNat < 128:=by omega
     exact ⟨hpos,hle,hg2,by omega⟩
   ·
    rw [if_neg hl] at h ⊢; have hle:=abj (c :: r); by_cases h2:opn (c :: r)=0
    · rw [if_pos h2] at h; simp at h
    ·
     rw [if_neg h2]; simp only [List.length_cons] at hle; refine ⟨by simp only; omega,hle,?_⟩; cases r with
     | nil=>
      simp only [opn] at h2 ⊢; split
      · rename_i ho; exact ⟨BP ho,BP ho⟩
      · rename_i ho; simp [ho] at h2
     | cons b r=>
      simp only [opn] at h2 ⊢; split
      · rename_i ho; exact ⟨(IX ho).2,(IX ho).1⟩
      ·
       rename_i ho2; split
       · rename_i ho; exact ⟨BP ho,BP ho⟩
       · rename_i ho; simp [ho,ho2] at h2
end Go.Ft
namespace Go.Ft
open Go
attribute [local congr] iH
theorem NC (out:List au) (h:out≠[]):idx out (bI ((out.length:Int) - 1))=if h2:out.length < 4611686018427387904 then some (out.getLast h) else idx out (bI ((out.length:Int) - 1)):=by
 split
 ·
  rename_i h2; have hl:0 < out.length:=List.length_pos_iff.2 h; rw [bg (by omega) (by omega),show (out.length:Int) - 1=((out.length - 1:Nat):Int) from by omega,Hw (by omega)]; congr 1; exact (List.getLast_eq_getElem h).symm
 · rfl
theorem OI (out:List au) (o:Nat) (h:out.length < 4611686018427387904):
  (if (o:Int)=0 then if (out.length:Int)=0 then some true else aA (idx out ((out.length:Int) - 1)) fun e1=>some (e1.kind != 5) else some false)=some (decide (o=0∧E8 out=false)):=by
 by_cases ho:o=0
 ·
  subst ho; by_cases he:out=[]
  · subst he; simp [E8]
  ·
   have hl:0 < out.length:=List.length_pos_iff.2 he; have hl2:¬ ((out.length:Int)=0):=by omega
   have h1:=NC out he; rw [dif_pos h,bg (by omega) (by omega)] at h1; rw [h1]; simp [hl2,E8,List.getLast?_eq_some_getLast he]; cases hk:(out.getLast he).kind == 5 <;> simp_all
 ·
  have:¬ (o:Int)=0:=by omega
  simp [ho,this]
theorem adw {s:Str} {p:Nat} (h:p < s.length) (hc:(s.getD p 0).toNat≠10):p + 1 + span qB (s.drop (p + 1))≤s.length∧Bd s (p + 1 + span qB (s.drop (p + 1))):=by
 have hl:=xL qB (s.drop (p + 1)); rw [oQ] at hl; refine ⟨by omega,?_⟩; rcases Nat.lt_or_ge (p + 1 + span qB (s.drop (p + 1))) s.length with h1 | h1
 ·
  right; left
  have key:∀ l:Str,span qB l < l.length→(l.getD (span qB l) 0).toNat=10:=by
   intro l
   induction l with
   | nil=>simp
   | cons c l ih=>
    rw [ko]; cases hn:qB c with
    | true=>simp only [if_true,List.length_cons]; intro h2; rw [List.getD_cons_succ]; exact ih (by omega)
    | false=>simp only [Bool.false_eq_true,if_false,List.length_cons]; intro _; simp [qB] at hn; rw [List.getD_cons_zero]; omega
  have:=key (s.drop (p + 1)) (by rw [oQ]; omega); rw [List.getD_eq_getElem?_getD,List.getElem?_drop] at this; rw [List.getD_eq_getElem?_getD]; omega
 · left; omega
theorem Y0 {c:UInt8} (r:Str) (h:c.toNat≠10):span qB (c :: r)=span qB r + 1:=by
 rw [ko,if_pos]; simp [qB]; omega
theorem Ng (c:UInt8) (r:Str):(mq (c :: r)).1≠5:=by
 simp only [mq]
 repeat' split
 all_goals simp
theorem qN {s:Str} (hs:s.length≤2147483648):∀ (k p nx o:Nat) (out:List au),s.length < k + p→p≤s.length→nx≤s.length→(p < nx→Bd s nx)→out.length≤p→o≤p→
  iV s k out (nx:Int) (o:Int) p=some (fin out (scan (nx - p) p o (E8 out) (s.drop p)))
 | 0,p,nx,o,out,h,h',_,_,_,_=>by omega
 | k + 1,p,nx,o,out,h,hp,hnx,hb,hout,ho=>by
  rw [iV]; by_cases hi:p < s.length
  ·
   rw [if_pos (by simpa using hi)]; by_cases hlt:p < nx
   ·
    
    have hst:=X3 hlt hnx (hb hlt)
    have hpos:1≤(dec s p).2:=by
     rcases Nat.lt_or_ge (s.getD p 0).toNat 128 with hc | hc
     · rw [dec_lt hc]; exact Nat.le_refl _
     · exact (Tn hi hc).2.1
    simp (disch:=omega) only [bg,bq,bW,bf,bA,if_pos,if_neg,ak,aC,aB,aG,aH,aK,aJ,aI,decide_eq_true_eq,beq_iff_eq,bne_iff_ne,ne_eq,Bool.and_eq_true,Bool.or_eq_true,Bool.not_eq_true',Bool.not_eq_true,decide_eq_false_iff_not,beq_eq_false_iff_ne,bne_eq_false_iff_eq,Int.toNat_add,Int.toNat_natCast,Int.reduceToNat,Int.zero_add,Int.add_zero,Nat.add_zero,Nat.zero_add,Bool.true_and,Bool.and_true,Bool.false_and,Bool.and_false,Bool.true_or,Bool.or_true,Bool.false_or,Bool.or_false,Bool.not_true,Bool.not_false,Bool.false_eq_true,Bool.true_eq_false,reduceCtorEq,not_true_eq_false,not_false_eq_true,if_true,if_false,decide_true,decide_false]; rw [qN hs k (p + (dec s p).2) nx o out (by omega) (by omega) hnx (fun _=>hb hlt) (by omega) (by omega)]; rw [show nx - p=(nx - (p + (dec s p).2)) + (dec s p).2 from by omega,Ea _ _ _ _ _ _ (by rw [oQ]; omega),List.drop_drop]
   ·
    have e0:nx - p=0:=by omega
    rw [e0]; have hh:=getD_drop hi; rcases Nat.lt_or_ge (s.getD p 0).toNat 128 with hc | hc
    ·
     rw [dec_lt hc]; simp (disch:=omega) only [RV,bg,bq,bW,bf,bA,if_pos,if_neg,ak,aC,aB,aG,aH,aK,aJ,aI,decide_eq_true_eq,beq_iff_eq,bne_iff_ne,ne_eq,Bool.and_eq_true,Bool.or_eq_true,Bool.not_eq_true',Bool.not_eq_true,decide_eq_false_iff_not,beq_eq_false_iff_ne,bne_eq_false_iff_eq,Int.toNat_add,Int.toNat_natCast,Int.reduceToNat,Int.zero_add,Int.add_zero,Nat.add_zero,Nat.zero_add,Bool.true_and,Bool.and_true,Bool.false_and,Bool.and_false,Bool.true_or,Bool.or_true,Bool.false_or,Bool.or_false,Bool.not_true,Bool.not_false,Bool.false_eq_true,Bool.true_eq_false,reduceCtorEq,not_true_eq_false,not_false_eq_true,if_true,if_false,decide_true,decide_false]; by_cases hbl:(s.getD p 0).toNat=32∨(s.getD p 0).toNat=9
     ·
      have e1:(((s.getD p 0).toNat:Int) == 32 || ((s.getD p 0).toNat:Int) == 9)=true:=by simp only [Bool.or_eq_true,beq_iff_eq]; omega
      simp (disch:=omega) only [e1,bg,bq,bW,bf,bA,if_pos,if_neg,ak,aC,aB,aG,aH,aK,aJ,aI,decide_eq_true_eq,beq_iff_eq,bne_iff_ne,ne_eq,Bool.and_eq_true,Bool.or_eq_true,Bool.not_eq_true',Bool.not_eq_true,decide_eq_false_iff_not,beq_eq_false_iff_ne,bne_eq_false_iff_eq,Int.toNat_add,Int.toNat_natCast,Int.reduceToNat,Int.zero_add,Int.add_zero,Nat.add_zero,Nat.zero_add,Bool.true_and,Bool.and_true,Bool.false_and,Bool.and_false,Bool.true_or,Bool.or_true,Bool.false_or,Bool.or_false,Bool.not_true,Bool.not_false,Bool.false_eq_true,Bool.true_eq_false,reduceCtorEq,not_true_eq_false,not_false_eq_true,if_true,if_false,decide_true,decide_false]; rw [qN hs k (p + 1) nx o out (by omega) (by omega) hnx (fun h=>by omega) (by omega) (by omega),hh,show nx - (p + 1)=0 from by omega]; rw [scan,if_pos hbl]
     ·
      have e1:(((s.getD p 0).toNat:Int) == 32 || ((s.getD p 0).toNat:Int) == 9)=false:=by simp only [Bool.or_eq_false_iff,beq_eq_false_iff_ne]; omega
      simp (disch:=omega) only [e1,bg,bq,bW,bf,bA,if_pos,if_neg,ak,aC,aB,aG,aH,aK,aJ,aI,decide_eq_true_eq,beq_iff_eq,bne_iff_ne,ne_eq,Bool.and_eq_true,Bool.or_eq_true,Bool.not_eq_true',Bool.not_eq_true,decide_eq_false_iff_not,beq_eq_false_iff_ne,bne_eq_false_iff_eq,Int.toNat_add,Int.toNat_natCast,Int.reduceToNat,Int.zero_add,Int.add_zero,Nat.add_zero,Nat.zero_add,Bool.true_and,Bool.and_true,Bool.false_and,Bool.and_false,Bool.true_or,Bool.or_true,Bool.false_or,Bool.or_false,Bool.not_true,Bool.not_false,Bool.false_eq_true,Bool.true_eq_false,reduceCtorEq,not_true_eq_false,not_false_eq_true,if_true,if_false,decide_true,decide_false]; by_cases V_:(s.getD p 0).toNat=35
      ·
       simp (disch:=omega) only [J4 acW (s:=s) (by omega) hp,bg,bq,bW,bf,bA,if_pos,if_neg,ak,aC,aB,aG,aH,aK,aJ,aI,decide_eq_true_eq,beq_iff_eq,bne_iff_ne,ne_eq,Bool.and_eq_true,Bool.or_eq_true,Bool.not_eq_true',Bool.not_eq_true,decide_eq_false_iff_not,beq_eq_false_iff_ne,bne_eq_false_iff_eq,Int.toNat_add,Int.toNat_natCast,Int.reduceToNat,Int.zero_add,Int.add_zero,Nat.add_zero,Nat.zero_add,Bool.true_and,Bool.and_true,Bool.false_and,Bool.and_false,Bool.true_or,Bool.or_true,Bool.false_or,Bool.or_false,Bool.not_true,Bool.not_false,Bool.false_eq_true,Bool.true_eq_false,reduceCtorEq,not_true_eq_false,not_false_eq_true,if_true,if_false,decide_true,decide_false]; obtain ⟨b1,b2⟩:=adw hi (by omega); rw [hh,Y0 _ (by omega)]; rw [show p + (span qB (s.drop (p + 1)) + 1)=p + 1 + span qB (s.drop (p + 1)) from by omega]; rw [qN hs k (p + 1) _ o out (by omega) (by omega) b1 (fun _=>b2) (by omega) (by omega)]; rw [show p + 1 + span qB (s.drop (p + 1)) - (p + 1)=span qB (s.drop (p + 1)) from by omega]; rw [scan,if_neg hbl,if_pos V_]
      ·
       by_cases h10:(s.getD p 0).toNat=10
       ·
        simp (disch:=omega) only [bg,bq,bW,bf,bA,if_pos,if_neg,ak,aC,aB,aG,aH,aK,aJ,aI,decide_eq_true_eq,beq_iff_eq,bne_iff_ne,ne_eq,Bool.and_eq_true,Bool.or_eq_true,Bool.not_eq_true',Bool.not_eq_true,decide_eq_false_iff_not,beq_eq_false_iff_ne,bne_eq_false_iff_eq,Int.toNat_add,Int.toNat_natCast,Int.reduceToNat,Int.zero_add,Int.add_zero,Nat.add_zero,Nat.zero_add,Bool.true_and,Bool.and_true,Bool.false_and,Bool.and_false,Bool.true_or,Bool.or_true,Bool.false_or,Bool.or_false,Bool.not_true,Bool.not_false,Bool.false_eq_true,Bool.true_eq_false,reduceCtorEq,not_true_eq_false,not_false_eq_true,if_true,if_false,decide_true,decide_false]; rw [OI out o (by omega),hh,scan,if_neg hbl,if_neg V_,if_pos h10]; by_cases hn:o=0∧E8 out=false
        ·
         have happ:app out [(⟨5,[],(p:Int)⟩:au)]=some (out ++ [⟨5,[],(p:Int)⟩]):=bf (by simp [Fy]; omega); have hd:decide (o=0∧E8 out=false)=true:=decide_eq_true hn; simp (disch:=omega) only [hd,happ,bg,bq,bW,bf,bA,if_pos,if_neg,ak,aC,aB,aG,aH,aK,aJ,aI,decide_eq_true_eq,beq_iff_eq,bne_iff_ne,ne_eq,Bool.and_eq_true,Bool.or_eq_true,Bool.not_eq_true',Bool.not_eq_true,decide_eq_false_iff_not,beq_eq_false_iff_ne,bne_eq_false_iff_eq,Int.toNat_add,Int.toNat_natCast,Int.reduceToNat,Int.zero_add,Int.add_zero,Nat.add_zero,Nat.zero_add,Bool.true_and,Bool.and_true,Bool.false_and,Bool.and_false,Bool.true_or,Bool.or_true,Bool.false_or,Bool.or_false,Bool.not_true,Bool.not_false,Bool.false_eq_true,Bool.true_eq_false,reduceCtorEq,not_true_eq_false,not_false_eq_true,if_true,if_false,decide_true,decide_false]; rw [qN hs k (p + 1) nx o _ (by omega) (by omega) hnx (fun h=>by omega) (by simp; omega) (by omega),show nx - (p + 1)=0 from by omega,Dl]; rw [Dw]; rfl
        ·
         have hd:decide (o=0∧E8 out=false)=false:=decide_eq_false hn; simp (disch:=omega) only [hd,bg,bq,bW,bf,bA,if_pos,if_neg,ak,aC,aB,aG,aH,aK,aJ,aI,decide_eq_true_eq,beq_iff_eq,bne_iff_ne,ne_eq,Bool.and_eq_true,Bool.or_eq_true,Bool.not_eq_true',Bool.not_eq_true,decide_eq_false_iff_not,beq_eq_false_iff_ne,bne_eq_false_iff_eq,Int.toNat_add,Int.toNat_natCast,Int.reduceToNat,Int.zero_add,Int.add_zero,Nat.add_zero,Nat.zero_add,Bool.true_and,Bool.and_true,Bool.false_and,Bool.and_false,Bool.true_or,Bool.or_true,Bool.false_or,Bool.or_false,Bool.not_true,Bool.not_false,Bool.false_eq_true,Bool.true_eq_false,reduceCtorEq,not_true_eq_false,not_false_eq_true,if_true,if_false,decide_true,decide_false]; rw [qN hs k (p + 1) nx o out (by omega) (by omega) hnx (fun h=>by omega) (by omega) (by omega),show nx - (p + 1)=0 from by omega]
       ·
        simp (disch:=omega) only [Ny hs hi,bg,bq,bW,bf,bA,if_pos,if_neg,ak,aC,aB,aG,aH,aK,aJ,aI,decide_eq_true_eq,beq_iff_eq,bne_iff_ne,ne_eq,Bool.and_eq_true,Bool.or_eq_true,Bool.not_eq_true',Bool.not_eq_true,decide_eq_false_iff_not,beq_eq_false_iff_ne,bne_eq_false_iff_eq,Int.toNat_add,Int.toNat_natCast,Int.reduceToNat,Int.zero_add,Int.add_zero,Nat.add_zero,Nat.zero_add,Bool.true_and,Bool.and_true,Bool.false_and,Bool.and_false,Bool.true_or,Bool.or_true,Bool.false_or,Bool.or_false,Bool.not_true,Bool.not_false,Bool.false_eq_true,Bool.true_eq_false,reduceCtorEq,not_true_eq_false,not_false_eq_true,if_true,if_false,decide_true,decide_false]; rw [hh,scan,if_neg hbl,if_neg V_,if_neg h10]; by_cases he:(mq (s.getD p 0 :: s.drop (p + 1))).2.2.2=0
        ·
         obtain ⟨n1,n2,n3,n4⟩:=GZ he; rw [oQ] at n2; rw [if_pos he]
         have hbd:Bd s (p + (mq (s.getD p 0 :: s.drop (p + 1))).2.2.1):=by
          right; right; refine ⟨by omega,?_⟩; rw [←hh,List.getD_eq_getElem?_getD,List.getElem?_drop] at n3; rw [List.getD_eq_getElem?_getD,←hh]; rw [←hh] at n1; rw [show p + (mq (s.drop p)).2.2.1 - 1=p + ((mq (s.drop p)).2.2.1 - 1) from by omega]; exact n3
         have h5:=Ng (s.getD p 0) (s.drop (p + 1)); generalize mq (s.getD p 0 :: s.drop (p + 1))=t at he n1 n2 hbd h5 ⊢; have happ:app out [(⟨t.1,t.2.1,(p:Int)⟩:au)]=some (out ++ [⟨t.1,t.2.1,(p:Int)⟩]):=bf (by simp [Fy]; omega); have aeg:Vj t.2.1 o≤o + 1:=by unfold Vj; (repeat' split) <;> omega
         have ek:((t.1:Int) == 5)=false:=beq_eq_false_iff_ne.2 h5; simp only [Z5,he,if_true]; simp (disch:=omega) only [bg,bq,bW,bf,bA,if_pos,if_neg,ak,aC,aB,aG,aH,aK,aJ,aI,decide_eq_true_eq,beq_iff_eq,bne_iff_ne,ne_eq,Bool.and_eq_true,Bool.or_eq_true,Bool.not_eq_true',Bool.not_eq_true,decide_eq_false_iff_not,beq_eq_false_iff_ne,bne_eq_false_iff_eq,Int.toNat_add,Int.toNat_natCast,Int.reduceToNat,Int.zero_add,Int.add_zero,Nat.add_zero,Nat.zero_add,Bool.true_and,Bool.and_true,Bool.false_and,Bool.and_false,Bool.true_or,Bool.or_true,Bool.false_or,Bool.or_false,Bool.not_true,Bool.not_false,Bool.false_eq_true,Bool.true_eq_false,reduceCtorEq,not_true_eq_false,not_false_eq_true,if_true,if_false,decide_true,decide_false]; by_cases hk:t.1=4
         ·
          simp (disch:=omega) only [hk,RU _ _ (by omega:o < 4611686018427387904),bg,bq,bW,bf,bA,if_pos,if_neg,ak,aC,aB,aG,aH,aK,aJ,aI,decide_eq_true_eq,beq_iff_eq,bne_iff_ne,ne_eq,Bool.and_eq_true,Bool.or_eq_true,Bool.not_eq_true',Bool.not_eq_true,decide_eq_false_iff_not,beq_eq_false_iff_ne,bne_eq_false_iff_eq,Int.toNat_add,Int.toNat_natCast,Int.reduceToNat,Int.zero_add,Int.add_zero,Nat.add_zero,Nat.zero_add,Bool.true_and,Bool.and_true,Bool.false_and,Bool.and_false,Bool.true_or,Bool.or_true,Bool.false_or,Bool.or_false,Bool.not_true,Bool.not_false,Bool.false_eq_true,Bool.true_eq_false,reduceCtorEq,not_true_eq_false,not_false_eq_true,if_true,if_false,decide_true,decide_false]; rw [hk] at happ; simp (disch:=omega) only [happ,bg,bq,bW,bf,bA,if_pos,if_neg,ak,aC,aB,aG,aH,aK,aJ,aI,decide_eq_true_eq,beq_iff_eq,bne_iff_ne,ne_eq,Bool.and_eq_true,Bool.or_eq_true,Bool.not_eq_true',Bool.not_eq_true,decide_eq_false_iff_not,beq_eq_false_iff_ne,bne_eq_false_iff_eq,Int.toNat_add,Int.toNat_natCast,Int.reduceToNat,Int.zero_add,Int.add_zero,Nat.add_zero,Nat.zero_add,Bool.true_and,Bool.and_true,Bool.false_and,Bool.and_false,Bool.true_or,Bool.or_true,Bool.false_or,Bool.or_false,Bool.not_true,Bool.not_false,Bool.false_eq_true,Bool.true_eq_false,reduceCtorEq,not_true_eq_false,not_false_eq_true,if_true,if_false,decide_true,decide_false]; rw [qN hs k (p + 1) _ (Vj t.2.1 o) _ (by omega) (by omega) (by omega) (fun _=>hbd) (by simp; omega) (by omega),Dl,Dw]; rw [show p + t.2.2.1 - (p + 1)=t.2.2.1 - 1 from by omega]
          rfl
         ·
          simp (disch:=omega) only [hk,happ,bg,bq,bW,bf,bA,if_pos,if_neg,ak,aC,aB,aG,aH,aK,aJ,aI,decide_eq_true_eq,beq_iff_eq,bne_iff_ne,ne_eq,Bool.and_eq_true,Bool.or_eq_true,Bool.not_eq_true',Bool.not_eq_true,decide_eq_false_iff_not,beq_eq_false_iff_ne,bne_eq_false_iff_eq,Int.toNat_add,Int.toNat_natCast,Int.reduceToNat,Int.zero_add,Int.add_zero,Nat.add_zero,Nat.zero_add,Bool.true_and,Bool.and_true,Bool.false_and,Bool.and_false,Bool.true_or,Bool.or_true,Bool.false_or,Bool.or_false,Bool.not_true,Bool.not_false,Bool.false_eq_true,Bool.true_eq_false,reduceCtorEq,not_true_eq_false,not_false_eq_true,if_true,if_false,decide_true,decide_false]; rw [qN hs k (p + 1) _ o _ (by omega) (by omega) (by omega) (fun _=>hbd) (by simp; omega) (by omega),Dl,Dw]; rw [show p + t.2.2.1 - (p + 1)=t.2.2.1 - 1 from by omega]; rw [ek]
        ·
         rw [if_neg he]; simp only [Z5,he,if_false]; simp (disch:=omega) only [he,bg,bq,bW,bf,bA,if_pos,if_neg,ak,aC,aB,aG,aH,aK,aJ,aI,decide_eq_true_eq,beq_iff_eq,bne_iff_ne,ne_eq,Bool.and_eq_true,Bool.or_eq_true,Bool.not_eq_true',Bool.not_eq_true,decide_eq_false_iff_not,beq_eq_false_iff_ne,bne_eq_false_iff_eq,Int.toNat_add,Int.toNat_natCast,Int.reduceToNat,Int.zero_add,Int.add_zero,Nat.add_zero,Nat.zero_add,Bool.true_and,Bool.and_true,Bool.false_and,Bool.and_false,Bool.true_or,Bool.or_true,Bool.false_or,Bool.or_false,Bool.not_true,Bool.not_false,Bool.false_eq_true,Bool.true_eq_false,reduceCtorEq,not_true_eq_false,not_false_eq_true,if_true,if_false,decide_true,decide_false]; rfl
    ·
     
     obtain ⟨g1,_⟩:=Tn hi hc; have e1:(((dec s p).1:Int) == 32 || ((dec s p).1:Int) == 9)=false:=by simp only [Bool.or_eq_false_iff,beq_eq_false_iff_ne]; omega
     have he:(mq (s.getD p 0 :: s.drop (p + 1))).2.2.2≠0:=fun he=>by have:=(GZ he).2.2.2; omega
     simp (disch:=omega) only [RV,e1,Ny hs hi,bg,bq,bW,bf,bA,if_pos,if_neg,ak,aC,aB,aG,aH,aK,aJ,aI,decide_eq_true_eq,beq_iff_eq,bne_iff_ne,ne_eq,Bool.and_eq_true,Bool.or_eq_true,Bool.not_eq_true',Bool.not_eq_true,decide_eq_false_iff_not,beq_eq_false_iff_ne,bne_eq_false_iff_eq,Int.toNat_add,Int.toNat_natCast,Int.reduceToNat,Int.zero_add,Int.add_zero,Nat.add_zero,Nat.zero_add,Bool.true_and,Bool.and_true,Bool.false_and,Bool.and_false,Bool.true_or,Bool.or_true,Bool.false_or,Bool.or_false,Bool.not_true,Bool.not_false,Bool.false_eq_true,Bool.true_eq_false,reduceCtorEq,not_true_eq_false,not_false_eq_true,if_true,if_false,decide_true,decide_false]; rw [hh,scan,if_neg (by omega),if_neg (by omega),if_neg (by omega),if_neg he]; simp only [Z5,he,if_false]; simp (disch:=omega) only [he,bg,bq,bW,bf,bA,if_pos,if_neg,ak,aC,aB,aG,aH,aK,aJ,aI,decide_eq_true_eq,beq_iff_eq,bne_iff_ne,ne_eq,Bool.and_eq_true,Bool.or_eq_true,Bool.not_eq_true',Bool.not_eq_true,decide_eq_false_iff_not,beq_eq_false_iff_ne,bne_eq_false_iff_eq,Int.toNat_add,Int.toNat_natCast,Int.reduceToNat,Int.zero_add,Int.add_zero,Nat.add_zero,Nat.zero_add,Bool.true_and,Bool.and_true,Bool.false_and,Bool.and_false,Bool.true_or,Bool.or_true,Bool.false_or,Bool.or_false,Bool.not_true,Bool.not_false,Bool.false_eq_true,Bool.true_eq_false,reduceCtorEq,not_true_eq_false,not_false_eq_true,if_true,if_false,decide_true,decide_false]; rfl
  ·
   have e:p=s.length:=by omega
   subst e; rw [if_neg (by simp)]; rw [List.drop_eq_nil_of_le (Nat.le_refl _)]; cases hz:nx - s.length <;> simp [scan,fin]
end Go.Ft
namespace Go.Ft
open Go
attribute [local congr] iH
theorem KS {s:Str} (hs:s.length≤65536):lY s=some (fin [] (scan 0 0 0 false s)):=by
 unfold lY; rw [if_neg (by simp; omega)]; have:=qN (s:=s) (by omega) BIG 0 0 0 [] (by simp only [BIG]; omega) (by omega) (by omega) (fun h=>by omega) (by simp) (by omega); exact this
def Mh :Bool→Str→Nat
 | _,[]=>0
 | cm,c :: r=>if c.toNat≠10∧(cm=true∨c.toNat=32∨c.toNat=9∨c.toNat=35) then Mh (cm || c.toNat == 35) r + 1 else 0
theorem S_ :∀ (cm:Bool) (l:Str),Mh cm l≤l.length
 | _,[]=>Nat.le_refl 0
 | cm,c :: r=>by
  rw [Mh]; split
  · have:=S_ (cm || c.toNat == 35) r; simp only [List.length_cons]; omega
  · exact Nat.zero_le _
theorem K4 {s:Str} (hs:s.length≤2147483648):∀ (k i:Nat) (cm:Bool),s.length < k + i→i≤s.length→
  mI s k (i:Int) cm=some ((i + Mh cm (s.drop i):Nat):Int)
 | 0,i,cm,h,h'=>by omega
 | k + 1,i,cm,h,h'=>by
  rw [mI]; by_cases hi:i < s.length
  ·
   have hh:=getD_drop hi
   have hx:idx s (i:Int)=some (s.getD i 0):=by
    rw [Hw hi,List.getD_eq_getElem?_getD,List.getElem?_eq_getElem hi]; rfl
   rw [hh,Mh]; have hc:(decide ((i:Int) < (s.length:Int)))=true:=by simp; omega
   simp only [hc,if_true,hx,ak]; generalize s.getD i 0=c; by_cases h10:c.toNat=10
   ·
    have e:((c.toNat:Int) != 10)=false:=by simp; omega
    simp [e,h10]
   ·
    have e:((c.toNat:Int) != 10)=true:=by simp; omega
    have e35:((c.toNat:Int) == 35)=(c.toNat == 35):=by
     by_cases h:c.toNat=35
     · simp [h]
     ·
      have h2:¬ (c.toNat:Int)=35:=by omega
      rw [beq_eq_false_iff_ne.2 h,beq_eq_false_iff_ne.2 h2]
    have go:∀ cm',mI s k (bI ((i:Int) + 1)) cm'=some ((i + (Mh cm' (s.drop (i + 1)) + 1):Nat):Int):=by
     intro cm'; rw [bg (by omega) (by omega)]; have:=K4 hs k (i + 1) cm' (by omega) (by omega); rw [show (i:Int) + 1=((i + 1:Nat):Int) from by omega,this]; congr 2; omega
    simp only [e,if_true,e35,h10,ne_eq,not_false_eq_true,true_and]; cases cm with
    | true=>simp [go]
    | false=>
     by_cases h32:c.toNat=32
     ·
      have h2:(c.toNat == 35)=false:=by simp [h32]
      simp [h32,go]
     ·
      have aep:((c.toNat:Int) == 32)=false:=by simp; omega
      by_cases h9:c.toNat=9
      · simp [h9,go]
      ·
       have h9':((c.toNat:Int) == 9)=false:=by simp; omega
       simp only [aep,h9',Bool.false_eq_true,if_false,ak,h32,h9,false_or,Bool.false_or]; cases hb:(c.toNat == 35) with
       | true=>simp [go]; simp at hb; simp [hb]
       | false=>simp at hb; simp [hb]
  ·
   have hc:(decide ((i:Int) < (s.length:Int)))=false:=by simp; omega
   rw [List.drop_eq_nil_of_le (by omega)]; simp only [hc,Bool.false_eq_true,if_false,ak,Mh,Nat.add_zero]
theorem K3 {s:Str} (hs:s.length≤65536) {i:Nat} (h:i≤s.length):nG s (i:Int)=some ((i + Mh false (s.drop i):Nat):Int):=
 K4 (by omega) BIG i false (by simp only [BIG]; omega) h
theorem XK (l:Str):Mh true l=span qB l:=by
 induction l with
 | nil=>rfl
 | cons c r ih=>
  rw [Mh,ko]; by_cases h:c.toNat=10
  · simp [h,qB]
  ·
   have:¬ (c.toNat:Int)=10:=by omega
   simp [h,qB,this,ih]
theorem K5 :∀ (l:Str) (cm:Bool),Mh false (l.drop (Mh cm l))=0
 | [],cm=>by cases cm <;> rfl
 | c :: r,cm=>by
  rw [Mh]; split
  · rw [List.drop_succ_cons]; exact K5 r _
  ·
   rename_i h; rw [List.drop_zero,Mh,if_neg]; intro h2; apply h; exact ⟨h2.1,by cases h2.2 with | inl h=>cases h | inr h=>exact Or.inr h⟩
theorem Kn :∀ (l:Str) (p o:Nat) (nl:Bool),scan 0 p o nl l=scan 0 (p + Mh false l) o nl (l.drop (Mh false l))
 | [],p,o,nl=>rfl
 | c :: r,p,o,nl=>by
  rw [Mh]; split
  ·
   rename_i h; by_cases V_:c.toNat=35
   ·
    rw [scan,if_neg (by omega),if_pos V_,List.drop_succ_cons]; simp only [V_,beq_self_eq_true,Bool.or_true]; rw [XK]; have:=Ea (span qB r) 0 (p + 1) o nl r (xL _ _); rw [Nat.zero_add] at this; rw [this]; rw [show p + 1 + span qB r=p + (span qB r + 1) from by omega]
   ·
    have hb:(c.toNat == 35)=false:=by simp [V_]
    rw [scan,if_pos (by obtain ⟨_,h⟩:=h; rcases h with h | h | h | h <;> simp_all),List.drop_succ_cons,hb]; rw [Kn r]; simp only [Bool.or_false]; rw [show p + 1 + Mh false r=p + (Mh false r + 1) from by omega]
  · rfl
theorem Mv (out:List au) (o:Nat) (h:out.length < 4611686018427387904):
  (if ((o:Int) == 0)=true then if ((out.length:Int) == 0)=true then some true else aA (idx out (bI ((out.length:Int) - 1))) fun e1=>some (e1.kind != 5) else some false)=some (decide (o=0∧E8 out=false)):=by
 by_cases ho:o=0
 ·
  subst ho; by_cases he:out=[]
  · subst he; simp [E8]
  ·
   have hl:0 < out.length:=List.length_pos_iff.2 he; have hl2:¬ ((out.length:Int)=0):=by omega
   have h1:=NC out he; rw [dif_pos h] at h1; rw [h1]; simp [hl2,E8,List.getLast?_eq_some_getLast he]; cases hk:(out.getLast he).kind == 5 <;> simp_all
 ·
  have:¬ (o:Int)=0:=by omega
  simp [ho,this]
theorem Kq {s:Str} (hs:s.length≤65536):∀ (k p o:Nat) (out:List au),s.length < k + p→p≤s.length→Mh false (s.drop p)=0→out.length≤p→o≤p→
  jW s k out (o:Int) (p:Int)=some (fin out (scan 0 p o (E8 out) (s.drop p)))
 | 0,p,o,out,h,h',_,_,_=>by omega
 | k + 1,p,o,out,h,hp,hg,hout,ho=>by
  rw [jW]; by_cases hi:p < s.length
  ·
   have hh:=getD_drop hi
   have hx:idx s (p:Int)=some (s.getD p 0):=by
    rw [Hw hi,List.getD_eq_getElem?_getD,List.getElem?_eq_getElem hi]; rfl
   have hc:(decide ((p:Int) < (s.length:Int)))=true:=by simp; omega
   have step:∀ (q:Nat) (o':Nat) (out':List au),p < q→q≤s.length→out'.length≤q→o'≤q→
     aA (nG s (q:Int)) (fun at3=>jW s k out' (o':Int) at3)=some (fin out' (scan 0 q o' (E8 out') (s.drop q))):=by
    intro q o' out' h1 h2 h3 h4; have hle:=S_ false (s.drop q); rw [oQ] at hle; rw [K3 hs h2,ak]; rw [Kq hs k (q + Mh false (s.drop q)) o' out' (by omega) (by omega) (by rw [←List.drop_drop]; exact K5 _ _) (by omega) (by omega)]; rw [Kn (s.drop q),List.drop_drop]
   rw [hh,Mh] at hg; simp only [hc,if_true,hx,ak]; by_cases h10:(s.getD p 0).toNat=10
   ·
    have e:(((s.getD p 0).toNat:Int) != 10)=false:=bne_eq_false_iff_eq.2 (by omega); have e5:((5:Int) != 5)=false:=rfl
    have eop:pq (o:Int) (⟨5,[],(p:Int)⟩:au)=some (o:Int):=by
     rw [Nu _ _ (by omega)]; simp
    simp only [e,e5,Bool.false_eq_true,if_false,eop,ak]; rw [Mv out o (by omega),ak]
    conv=>rhs; rw [hh,scan,if_neg (by omega),if_neg (by omega),if_pos h10]
    have w1:bI ((p:Int) + 1)=((p + 1:Nat):Int):=by rw [bg (by omega) (by omega)]; omega
    by_cases hn:o=0∧E8 out=false
    ·
     have happ:app out [(⟨5,[],(p:Int)⟩:au)]=some (out ++ [⟨5,[],(p:Int)⟩]):=bf (by simp [Fy]; omega); rw [decide_eq_true hn,if_pos rfl,happ,ak,w1]; rw [step (p + 1) o _ (by omega) (by omega) (by simp; omega) (by omega),Dl,if_pos hn,Dw]; rfl
    ·
     rw [decide_eq_false hn,if_neg Bool.false_ne_true,w1]; rw [step (p + 1) o _ (by omega) (by omega) (by omega) (by omega),if_neg hn]
   ·
    have e:(((s.getD p 0).toNat:Int) != 10)=true:=bne_iff_ne.2 (by omega); simp only [e,if_true]
    have hbl:¬ ((s.getD p 0).toNat=32∨(s.getD p 0).toNat=9):=fun h=>by
     rw [if_pos ⟨h10,by omega⟩] at hg; omega
    have V_:¬ (s.getD p 0).toNat=35:=fun h=>by
     rw [if_pos ⟨h10,by omega⟩] at hg; omega
    rw [U3 (by omega) hi,hh,scan,if_neg hbl,if_neg V_,if_neg h10]; by_cases he:(mq (s.getD p 0 :: s.drop (p + 1))).2.2.2=0
    ·
     obtain ⟨n1,n2,n3,n4⟩:=GZ he; have h5:=Ng (s.getD p 0) (s.drop (p + 1)); rw [oQ] at n2; rw [if_pos he]; generalize mq (s.getD p 0 :: s.drop (p + 1))=t at he n1 n2 h5 ⊢; have happ:app out [(⟨t.1,t.2.1,(p:Int)⟩:au)]=some (out ++ [⟨t.1,t.2.1,(p:Int)⟩]):=bf (by simp [Fy]; omega); have aeg:Vj t.2.1 o≤o + 1:=by unfold Vj; (repeat' split) <;> omega
     have ek:((t.1:Int) == 5)=false:=beq_eq_false_iff_ne.2 h5; have ek2:((t.1:Int) != 5)=true:=bne_iff_ne.2 h5; have w1:bI ((p:Int) + (t.2.2.1:Int))=((p + t.2.2.1:Nat):Int):=by rw [bg (by omega) (by omega)]; omega
     simp only [rtk,he,if_true,aB,ek2,ak,happ,Nu _ _ (by omega:o < 4611686018427387904),w1]; have e00:((0:Int) != 0)=false:=rfl; simp only [e00,Bool.false_eq_true,if_false]; rw [step (p + t.2.2.1) _ _ (by omega) (by omega) (by simp; omega) (by split <;> omega),Dl,Dw,ek]; have hsk:=Ea (t.2.2.1 - 1) 0 (p + 1) (if t.1=4 then Vj t.2.1 o else o) false (s.drop (p + 1)) (by rw [oQ]; omega); rw [Nat.zero_add] at hsk; rw [hsk,List.drop_drop,show p + 1 + (t.2.2.1 - 1)=p + t.2.2.1 from by omega]
    ·
     rw [if_neg he]; have e00:((mq (s.getD p 0 :: s.drop (p + 1))).2.2.2 != 0)=true:=bne_iff_ne.2 he; simp only [rtk,he,if_false,aB,e00,if_true]; rfl
  ·
   have e:p=s.length:=by omega
   subst e; rw [List.drop_eq_nil_of_le (Nat.le_refl _)]; simp [scan,fin]
theorem Sz {s:Str} (hs:s.length≤65536):qJ s=some (fin [] (scan 0 0 0 false s)):=by
 unfold qJ; rw [if_neg (by simp; omega),show (0:Int)=((0:Nat):Int) from rfl,K3 hs (Nat.zero_le _),ak]; have hle:=S_ false (s.drop 0); rw [oQ] at hle; rw [Kq hs BIG _ 0 [] (by simp only [BIG]; omega) (by omega) (by rw [←List.drop_drop]; exact K5 _ _) (by simp) (by omega)]; rw [←List.drop_drop,List.drop_zero]; have:=Kn s 0 0 false; rw [this]; rfl
theorem Qa (s:Str):qJ s=lY s:=by
 rcases Nat.lt_or_ge 65536 s.length with h | h
 · unfold qJ lY; rw [if_pos (by simp; omega),if_pos (by simp; omega)]
 · rw [KS h,Sz h]
theorem Km :∀ (l:Str) (k p o:Nat) (nl:Bool),(scan k p o nl l).1.length≤l.length
 | [],k,p,o,nl=>by cases k <;> simp [scan]
 | c :: r,k + 1,p,o,nl=>by rw [scan]; have:=Km r k (p + 1) o nl; simp only [List.length_cons]; omega
 | c :: r,0,p,o,nl=>by
  have h1:=Km r; rw [scan]
  repeat' split
  all_goals simp only [List.length_cons,List.length_nil]
  all_goals first | omega | (have:=h1 0 (p + 1) o nl; omega) | (have:=h1 0 (p + 1) o true; omega) | (have:=h1 (span qB r) (p + 1) o nl; omega) | skip
  all_goals (have:=h1 ((mq (c :: r)).2.2.1 - 1) (p + 1) (if (mq (c :: r)).1=4 then Vj (mq (c :: r)).2.1 o else o) false; simp_all)
theorem Zi (l:Str):(fin [] (scan 0 0 0 false l)).1.length≤l.length:=by
 have:=Km l 0 0 0 false; unfold fin; split <;> simp_all
end Go.Ft
namespace Go.Ft
open Go
attribute [local congr] iH
theorem Sk :∀ (r:Str) (k:Nat) (b:Str) (n:Nat),(txt k b n r).1.length≤4096
 | [],k,b,n=>by cases k <;> simp [txt]
 | c :: r,k + 1,b,n=>by rw [txt]; exact Sk r k b n
 | c :: r,0,b,n=>by
  rw [txt]; split
  ·
   split
   · simp
   · simp only; omega
  ·
   split
   · exact Sk r _ _ _
   · simp
theorem YP :∀ l:Str,(mq l).2.1.length≤l.length + 4096
 | []=>by simp [mq]
 | c :: r=>by
  have:=Sk r 0 [] 1; unfold mq; simp only
  repeat' split
  all_goals simp only [List.length_nil,List.length_take]
  all_goals omega
theorem He :∀ (l:Str) (k p o:Nat) (nl:Bool),∀ t∈(scan k p o nl l).1,t.text.length≤l.length + 4096
 | [],k,p,o,nl,t,ht=>by cases k <;> simp [scan] at ht
 | c :: r,k + 1,p,o,nl,t,ht=>by rw [scan] at ht; have:=He r k (p + 1) o nl t ht; simp only [List.length_cons]; omega
 | c :: r,0,p,o,nl,t,ht=>by
  have h1:=He r; have h2:=YP (c :: r); simp only [List.length_cons] at h2 ⊢; rw [scan] at ht; split at ht
  · have:=h1 _ _ _ _ t ht; omega
  ·
   split at ht
   · have:=h1 _ _ _ _ t ht; omega
   ·
    split at ht
    ·
     split at ht
     ·
      simp only [List.mem_cons] at ht; rcases ht with rfl | ht
      · simp
      · have:=h1 _ _ _ _ t ht; omega
     · have:=h1 _ _ _ _ t ht; omega
    ·
     split at ht
     ·
      simp only [List.mem_cons] at ht; rcases ht with rfl | ht
      · exact h2
      · have:=h1 _ _ _ _ t ht; omega
     · simp at ht
theorem toks (s:Str):∃ ts a e,lY s=some (ts,a,e)∧qJ s=some (ts,a,e)∧yh ts:=by
 rw [Qa]; rcases Nat.lt_or_ge 65536 s.length with h | h
 ·
  unfold lY; rw [if_pos (by simp; omega)]; exact ⟨_,_,_,rfl,rfl,by simp [yh]⟩
 ·
  rw [KS h]; have hl:=Zi s; refine ⟨(fin [] (scan 0 0 0 false s)).1,(fin [] (scan 0 0 0 false s)).2.1,(fin [] (scan 0 0 0 false s)).2.2,rfl,rfl,by omega,fun t ht=>?_⟩
  have hm:t∈(scan 0 0 0 false s).1:=by
   unfold fin at ht; split at ht
   · simpa using ht
   · simp at ht
  have:=He s 0 0 0 false t hm; omega
def zeroE :aj:=aj.mk 0 ([]:Str) (av.mk 0 false 0 ([]:Str) [] []) [] []
theorem YR {ts:List au} (h:yh ts):∃ (e:aj) (j:Nat) (c:Int),wP ts=some (e,(j:Int),c)∧Dg ts=some (e,(j:Int),c)∧j≤ts.length∧(c=0→xval e=0∧e.bulk≤137438953472)∧(c≠0→e=zeroE):=by
 have hN:=h.1; unfold wP Dg zN; rcases X5 h with ⟨e,j,g1,g2,gb,gP,gR⟩ | ⟨j,c,x,g1,g2,gc,gP,gR⟩
 ·
  have hbk:e.bulk≤137438953472:=by omega
  obtain ⟨v1,v2⟩:=YH (e:=e) (by omega); rw [gP,gR,gY,aB,aB]; simp only [Mw,Bool.false_eq_true,if_false]; rw [v1,v2,ak]; by_cases hv:xval e=0
  ·
   rw [if_neg (by simpa using hv)]; exact ⟨e,j,0,rfl,rfl,g2,fun _=>⟨hv,hbk⟩,fun h=>absurd rfl h⟩
  ·
   rw [if_pos (by simpa using hv)]; exact ⟨zeroE,0,xval e,rfl,rfl,Nat.zero_le _,fun h=>absurd h hv,fun _=>rfl⟩
 ·
  rw [gP,gR,fJ,aB,aB]; simp only [KN gc,if_true]; exact ⟨zeroE,j,c,rfl,rfl,g2,fun h=>absurd h gc,fun _=>rfl⟩
theorem Xm (s:Str):∃ (e:aj) (a c:Int),uK s=some (e,a,c)∧AQ s=some (e,a,c)∧(c=0→xval e=0∧e.bulk≤137438953472):=by
 obtain ⟨ts,a,c,l1,l2,hts⟩:=toks s; unfold uK AQ; rw [l1,l2,aB,aB]; by_cases hc:c=0
 ·
  subst hc; simp only [Mw,Bool.false_eq_true,if_false]; obtain ⟨e,j,c,t1,t2,hj,t3,t4⟩:=YR hts; rw [t1,t2,aB,aB]; by_cases hc:c=0
  ·
   subst hc; have e0:((0:Int) == 0)=true:=rfl; simp only [Mw,e0,Bool.true_and,Bool.false_eq_true,if_false,if_true]; by_cases hlt:j < ts.length
   ·
    have e1:decide ((j:Int) < (ts.length:Int))=true:=decide_eq_true (by omega); have e2:((j:Int) == (ts.length:Int))=false:=by rw [beq_eq_false_iff_ne]; omega
    simp only [e1,e2,if_true,Bool.false_eq_true,if_false,kL hlt,ak]; exact ⟨_,_,_,rfl,rfl,fun h=>by cases h⟩
   ·
    have e1:decide ((j:Int) < (ts.length:Int))=false:=decide_eq_false (by omega); have e2:((j:Int) == (ts.length:Int))=true:=by rw [beq_iff_eq]; omega
    simp only [e1,e2,if_true,Bool.false_eq_true,if_false]; exact ⟨e,0,0,rfl,rfl,t3⟩
  ·
   have e0:(c == 0)=false:=by simpa using hc
   simp only [KN hc,e0,Bool.false_and,Bool.false_eq_true,if_false,if_true,xP]; by_cases hlt:j < ts.length
   ·
    have e1:decide ((j:Int) < (ts.length:Int))=true:=decide_eq_true (by omega); simp only [e1,if_true,kL hlt,ak]; exact ⟨_,_,_,rfl,rfl,fun h=>absurd h hc⟩
   ·
    have e1:decide ((j:Int) < (ts.length:Int))=false:=decide_eq_false (by omega); simp only [e1,Bool.false_eq_true,if_false,ak]; exact ⟨_,_,_,rfl,rfl,fun h=>absurd h hc⟩
 ·
  simp only [KN hc,if_true]; exact ⟨_,_,_,rfl,rfl,fun h=>absurd h hc⟩
end Go.Ft
namespace Go.Ft
open Go
attribute [local congr] iH
theorem adO {i:Nat} (h:i < 4611686018427387000):bI (bI ((i:Int) + 1) + 1)=((i + 2:Nat):Int):=by rw [kK (by omega)]; exact kK (i:=i + 1) (by omega)
theorem Oz {s:Str} (hs:s.length≤65536):∀ (n i k k':Nat),s.length + 2≤n + i→i≤s.length + 1→n < k→n < k'→
  ∃ a b:Nat,kN s k (i:Int)=some (a:Int)∧ou s k' (i:Int)=some (b:Int)∧((a=b∧i < a∧a≤s.length)∨(a=s.length∧s.length < b∧b≤s.length + 3))
 | n,i,0,k',_,_,h,_=>by omega
 | n,i,k + 1,0,_,_,_,h=>by omega
 | 0,i,k + 1,k' + 1,h1,h2,_,_=>by omega
 | n + 1,i,k + 1,k' + 1,h1,h2,h3,h4=>by
  rw [kN,ou]; by_cases hi:i < s.length
  ·
   have e1:decide ((i:Int) < (s.length:Int))=true:=decide_eq_true (by omega); simp only [e1,if_true,kL hi,ak]; generalize s[i]=c; by_cases c92:c.toNat=92
   ·
    have e2:((c.toNat:Int) == 92)=true:=by rw [beq_iff_eq]; omega
    have e3:((c.toNat:Int) != 34)=true:=by rw [bne_iff_ne]; omega
    simp only [e2,e3,if_true]; rw [adO (by omega)]; obtain ⟨a,b,q1,q2,q3⟩:=Oz hs n (i + 2) k k' (by omega) (by omega) (by omega) (by omega); exact ⟨a,b,q1,q2,by omega⟩
   ·
    have e2:((c.toNat:Int) == 92)=false:=by rw [beq_eq_false_iff_ne]; omega
    by_cases c34:c.toNat=34
    ·
     have e3:((c.toNat:Int) == 34)=true:=by rw [beq_iff_eq]; omega
     have e4:((c.toNat:Int) != 34)=false:=by rw [bne_eq_false_iff_eq]; omega
     simp only [e2,e3,e4,if_true,Bool.false_eq_true,if_false]; exact ⟨i + 1,i + 1,by rw [kK (by omega)],by rw [kK (by omega)],.inl ⟨rfl,by omega,by omega⟩⟩
    ·
     have e3:((c.toNat:Int) == 34)=false:=by rw [beq_eq_false_iff_ne]; omega
     have e4:((c.toNat:Int) != 34)=true:=by rw [bne_iff_ne]; omega
     simp only [e2,e3,e4,if_true,Bool.false_eq_true,if_false]; rw [kK (by omega)]; obtain ⟨a,b,q1,q2,q3⟩:=Oz hs n (i + 1) k k' (by omega) (by omega) (by omega) (by omega); exact ⟨a,b,q1,q2,by omega⟩
  ·
   have e1:decide ((i:Int) < (s.length:Int))=false:=decide_eq_false (by omega); simp only [e1,Bool.false_eq_true,if_false,ak]; exact ⟨s.length,i + 1,rfl,by rw [kK (by omega)],.inr ⟨rfl,by omega,by omega⟩⟩
theorem Ib {s:Str} (hs:s.length≤65536):∀ (n i k k':Nat) (o:Int),s.length + 1≤n + i→n < k→n < k'→i≤s.length + 4→
  ∃ r:Int,ig s k (i:Int) o=some r∧ji s k' (i:Int) o=some r∧(r=-1∨∃ j:Nat,r=j∧i≤j∧j < s.length)
 | n,i,0,k',o,_,h,_,_=>by omega
 | n,i,k + 1,0,o,_,_,h,_=>by omega
 | n,i,k + 1,k' + 1,o,h1,h3,h4,h5=>by
  rw [ig,ji]; by_cases hi:i < s.length
  ·
   obtain ⟨n,rfl⟩:∃ m,n=m + 1:=⟨n - 1,by omega⟩; have e1:decide ((i:Int) < (s.length:Int))=true:=decide_eq_true (by omega); simp only [e1,if_true,kL hi,ak]; generalize s[i]=c; have w1:bI ((i:Int) + 1)=((i + 1:Nat):Int):=kK (by omega)
   have next:∀ o:Int,∃ r:Int,ig s k (bI ((i:Int) + 1)) o=some r∧ji s k' (bI ((i:Int) + 1)) o=some r∧(r=-1∨∃ j:Nat,r=j∧i≤j∧j < s.length):=fun o=>by
    rw [w1]; obtain ⟨r,q1,q2,q3⟩:=Ib hs n (i + 1) k k' o (by omega) (by omega) (by omega) (by omega); refine ⟨r,q1,q2,?_⟩; rcases q3 with q3 | ⟨j,q3,q4,q5⟩
    · exact .inl q3
    · exact .inr ⟨j,q3,by omega,q5⟩
   by_cases c34:((c.toNat:Int) == 34)=true
   ·
    simp only [c34,if_true,wo,BH]; rw [w1]; have hB:=jV; obtain ⟨a,b,q1,q2,q3⟩:=Oz hs (s.length + 2) (i + 1) BIG BIG (by omega) (by omega) (by omega) (by omega); rw [q1,q2,ak,ak]; rcases q3 with ⟨q3,q4,q5⟩ | ⟨q3,q4,q5⟩
    ·
     subst q3; obtain ⟨r,p1,p2,p3⟩:=Ib hs n a k k' o (by omega) (by omega) (by omega) (by omega); refine ⟨r,p1,p2,?_⟩; rcases p3 with p3 | ⟨j,p3,p4,p5⟩
     · exact .inl p3
     · exact .inr ⟨j,p3,by omega,p5⟩
    ·
     obtain ⟨k,rfl⟩:∃ q,k=q + 1:=⟨k - 1,by omega⟩; obtain ⟨k',rfl⟩:∃ q,k'=q + 1:=⟨k' - 1,by omega⟩; rw [ig,ji,if_neg (by simp; omega),if_neg (by simp; omega)]; exact ⟨-1,rfl,rfl,.inl rfl⟩
   ·
    have c34:((c.toNat:Int) == 34)=false:=by simpa using c34
    simp only [c34,Bool.false_eq_true,if_false]; by_cases Zv:((c.toNat:Int) == 123)=true
    · simp only [Zv,if_true]; exact next _
    ·
     have Zv:((c.toNat:Int) == 123)=false:=by simpa using Zv
     simp only [Zv,Bool.false_eq_true,if_false]; by_cases Zu:((c.toNat:Int) == 125)=true
     ·
      simp only [Zu,if_true]; by_cases ho:(o == 0)=true
      ·
       simp only [ho,if_true]; exact ⟨i,rfl,rfl,.inr ⟨i,rfl,Nat.le_refl _,hi⟩⟩
      ·
       have ho:(o == 0)=false:=by simpa using ho
       simp only [ho,Bool.false_eq_true,if_false]; exact next _
     ·
      have Zu:((c.toNat:Int) == 125)=false:=by simpa using Zu
      simp only [Zu,Bool.false_eq_true,if_false]; exact next _
  ·
   have e1:decide ((i:Int) < (s.length:Int))=false:=decide_eq_false (by omega); simp only [e1,Bool.false_eq_true,if_false]; exact ⟨-1,rfl,rfl,.inl rfl⟩
theorem X8 {s:Str} (hs:s.length≤65536) {i:Nat} (hi:i≤s.length + 4):∃ r:Int,uV s (i:Int)=some r∧zD s (i:Int)=some r∧(r=-1∨∃ j:Nat,r=j∧i≤j∧j < s.length):=by
 have hB:=jV; exact Ib hs (s.length + 1) i BIG BIG 0 (by omega) (by omega) (by omega) hi
end Go.Ft
namespace Go.Ft
open Go
attribute [local congr] iH
def P9 (t:Str):aR:=aR.mk t false zeroE
def Df (ps:List aR) (t:Str):List aR:=if t=[] then ps else ps ++ [P9 t]
def UE (ps:List aR):Prop:=ps=[]∨∃ l p,ps=l ++ [p]∧p.Uy=true
theorem QZ {ps:List aR} {t:Str} (hp:ps.length≤1048576):jR ps t=some (Df ps t):=by
 have hL:Fy=4294967296:=rfl; unfold jR Df; cases t with
 | nil=>rfl
 | cons c r=>
  rw [if_pos (decide_eq_true (by simp only [List.length_cons]; omega)),if_neg (by simp),bf (by simp; omega)]; rfl
theorem Wp {ps:List aR} {t:Str} (hc:UE ps) (hp:ps.length≤1048576) (ht:t.length≤1048576) (c:UInt8):yI (Df ps t) c=some (Df ps (t ++ [c])):=by
 have hL:Fy=4294967296:=rfl; unfold yI; cases t with
 | nil=>
  have hr:Df ps []=ps:=rfl; rw [hr,if_pos (by omega)]
  have h1:(((ps.length:Int) == 0) || tu ps)=true:=by
   rcases hc with rfl | ⟨l,p,rfl,hpi⟩
   · rfl
   · simp [tu,hpi]
  rw [if_pos h1,bf (by simp; omega)]; rfl
 | cons d r=>
  have hr:Df ps (d :: r)=ps ++ [P9 (d :: r)]:=rfl; have hr2:Df ps ((d :: r) ++ [c])=ps ++ [P9 ((d :: r) ++ [c])]:=rfl; simp only [List.length_cons] at ht; rw [hr,hr2,if_pos (by simp; omega),if_neg (by simp [tu,P9]; omega)]; have e1:uw (ps ++ [P9 (d :: r)])=d :: r:=by simp [uw,P9]
  rw [e1,bf (by simp; omega),ak]; simp [zC,P9]
theorem acw (s:Str) (i:Nat) (hi:i < s.length) (hs:s.length≤1048576) (a b:UInt8):strings_HasPrefix (s.drop i) [a,b]=some ((s[i] == a) && (s[i + 1]? == some b)):=by
 unfold strings_HasPrefix jh; rw [List.drop_eq_getElem_cons hi]; by_cases h1:i + 1 < s.length
 ·
  rw [List.drop_eq_getElem_cons h1,List.getElem?_eq_getElem h1]; rw [if_pos (decide_eq_true (by simp only [List.length_cons,List.length_nil]; omega))]
  have e:sl (s[i] :: s[i + 1] :: s.drop (i + 1 + 1)) 0 ((([a,b]:Str).length:Nat):Int)=some [s[i],s[i + 1]]:=by
   rw [bW (by omega) (by simp) (by simp only [List.length_cons,List.length_nil]; omega)]; rfl
  rw [e,ak]; generalize s[i]=x; generalize s[i + 1]=y; by_cases hx:x=a <;> by_cases hy:y=b <;> simp [hx,hy]
 ·
  rw [List.drop_of_length_le (by omega),List.getElem?_eq_none (by omega),if_neg (by simp)]; simp
theorem Qr (ps:List aR) (t:Str):(Df ps t).length≤ps.length + 1:=by unfold Df; split <;> simp
def Oa (p:aR):Prop:=(p.Uy=true→p.text=[]∧xval p.expr=0∧p.expr.bulk≤137438953472)∧(p.Uy=false→p.text≠[]∧p.expr=zeroE∧p.text.length≤4096)
theorem Np {ps:List aR} {t:Str} (htl:t.length≤4096) (h:∀ p∈ps,Oa p):∀ p∈Df ps t,Oa p:=by
 intro p hp; unfold Df at hp; split at hp
 · exact h p hp
 ·
  rename_i ht; rcases List.mem_append.1 hp with hp | hp
  · exact h p hp
  ·
   cases List.mem_singleton.1 hp; exact ⟨fun h=>by simp [P9] at h,fun _=>⟨ht,rfl,htl⟩⟩
theorem EW {s:Str} (hs:s.length≤4096):∀ (n i k k':Nat) (ps:List aR) (t:Str),s.length + 1≤n + i→n < k→n < k'→i≤s.length→UE ps→ps.length≤2 * i→t.length≤i→(∀ p∈ps,Oa p)→
  ∃ (l:List aR) (a c:Int),jM s k (i:Int) ps t=some (l,a,c)∧lU s k' (Df ps t) (i:Int)=some (l,a,c)∧(∀ p∈l,Oa p)∧l.length≤10000∧(c≠0→l=[])
 | n,i,0,k',ps,t,_,h,_,_,_,_,_,_=>by omega
 | n,i,k + 1,0,ps,t,_,_,h,_,_,_,_,_=>by omega
 | n,i,k + 1,k' + 1,ps,t,h1,h2,h3,hi,hcl,hps,ht,hg=>by
  have hL:Fy=4294967296:=rfl; rw [jM,lU]; by_cases hlt:i < s.length
  ·
   obtain ⟨n,rfl⟩:∃ m,n=m + 1:=⟨n - 1,by omega⟩; have e1:decide ((i:Int) < (s.length:Int))=true:=decide_eq_true (by omega); have w1:bI ((i:Int) + 1)=((i + 1:Nat):Int):=kK (by omega); have w2:bI ((i:Int) + 2)=((i + 2:Nat):Int):=by rw [bg (by omega) (by omega)]; omega
   simp only [e1,if_true,kL hlt,ak]; rw [qA (by omega),ak,acw s i hlt (by omega),ak]
   have Qh:∀ (c:UInt8) (j:Nat),i < j→j≤i + 2→j≤s.length→∃ (l:List aR) (a c1:Int),(aA (app t [c]) fun Qd=>jM s k (j:Int) ps Qd)=some (l,a,c1)∧(aA (yI (Df ps t) c) fun l2=>lU s k' l2 (j:Int))=some (l,a,c1)∧(∀ p∈l,Oa p)∧l.length≤10000∧(c1≠0→l=[]):=fun c j hj1 hj2 hj3=>by
    rw [bf (by simp; omega),ak,Wp hcl (by omega) (by omega) c,ak]; exact EW hs n j k k' ps (t ++ [c]) (by omega) (by omega) (by omega) hj3 hcl (by omega) (by simp; omega) hg
   by_cases hA:s[i]=36∧s[i + 1]?=some 36
   ·
    obtain ⟨a1,a2⟩:=hA; obtain ⟨hlt1,a3⟩:=List.getElem?_eq_some_iff.1 a2
    have c1:(((s[i].toNat:Int) != 36) || (decide ((s.length:Int)≤bI ((i:Int) + 1))))=false:=by
     rw [w1,a1]; simp; omega
    rw [if_pos (by simp [a1,a2]),if_neg (by rw [c1]; simp),w1,w2]; simp only [kL hlt1,ak,a3]; have e36:(((36:UInt8).toNat:Int) != 36)=false:=by decide
    have aeu:(((36:UInt8).toNat:Int) == 36)=true:=by decide
    simp only [e36,aeu,Bool.false_eq_true,if_false,if_true,ak]; exact Qh 36 (i + 2) (by omega) (by omega) (by omega)
   ·
    have p36:((s[i] == 36) && (s[i + 1]? == some 36))=false:=by
     cases hx:((s[i] == 36) && (s[i + 1]? == some 36)) with
     | false=>rfl
     | true=>simp only [Bool.and_eq_true,beq_iff_eq] at hx; exact absurd hx hA
    rw [p36,if_neg (by simp),acw s i hlt (by omega),ak]; by_cases hB:s[i]=36∧s[i + 1]?=some 123
    ·
     obtain ⟨a1,a2⟩:=hB; obtain ⟨hlt1,a3⟩:=List.getElem?_eq_some_iff.1 a2
     have c1:(((s[i].toNat:Int) != 36) || (decide ((s.length:Int)≤bI ((i:Int) + 1))))=false:=by
      rw [w1,a1]; simp; omega
     rw [if_pos (by simp [a1,a2]),if_neg (by rw [c1]; simp),w1,w2]; simp only [kL hlt1,ak,a3]; have e1:(((123:UInt8).toNat:Int) != 36)=true:=by decide
     have e2:(((123:UInt8).toNat:Int) == 36)=false:=by decide
     have e3:(((123:UInt8).toNat:Int) != 123)=false:=by decide
     simp only [e1,e2,e3,Bool.false_eq_true,if_false,if_true,ak]; obtain ⟨r,q1,q2,q3⟩:=X8 (s:=s) (by omega) (i:=i + 2) (by omega); rw [q1,q2,ak,ak]; rcases q3 with q3 | ⟨j,q3,q4,q5⟩
     ·
      subst q3; exact ⟨[],(i:Int),4,rfl,rfl,by simp,by simp,fun _=>rfl⟩
     ·
      subst q3; have d0:decide ((j:Int) < 0)=false:=decide_eq_false (by omega); have hsl:sl s ((i + 2:Nat):Int) (j:Int)=some ((s.take j).drop (i + 2)):=by rw [bW (by omega) (by omega) (by omega)]; rfl
      simp only [d0,Bool.false_eq_true,if_false,hsl,ak]; obtain ⟨e,a,c,p1,p2,p3⟩:=Xm ((s.take j).drop (i + 2)); rw [p1,p2,aB,aB]; by_cases hc:c=0
      ·
       subst hc; have hr:=Qr ps t; have wj:bI ((j:Int) + 1)=((j + 1:Nat):Int):=kK (by omega); simp only [Mw,Bool.false_eq_true,if_false]; rw [QZ (by omega),ak,bf (by simp; omega),ak,ak,wj]; have hrp:Df (Df ps t ++ [aR.mk ([]:Str) true e]) []=Df ps t ++ [aR.mk ([]:Str) true e]:=rfl
       have:=EW hs n (j + 1) k k' (Df ps t ++ [aR.mk ([]:Str) true e]) [] (by omega) (by omega) (by omega) (by omega) (.inr ⟨_,_,rfl,rfl⟩) (by simp; omega) (by simp) (by
        intro p hp; rcases List.mem_append.1 hp with hp | hp
        · exact Np (by omega) hg p hp
        ·
         cases List.mem_singleton.1 hp
         exact ⟨fun _=>⟨rfl,p3 rfl⟩,fun h=>by cases h⟩)
       rw [hrp] at this; exact this
      ·
       simp only [KN hc,if_true]; exact ⟨[],_,c,rfl,rfl,by simp,by simp,fun _=>rfl⟩
    ·
     have adZ:((s[i] == 36) && (s[i + 1]? == some 123))=false:=by
      cases hx:((s[i] == 36) && (s[i + 1]? == some 123)) with
      | false=>rfl
      | true=>simp only [Bool.and_eq_true,beq_iff_eq] at hx; exact absurd hx hB
     have hb1:(if (((s[i].toNat:Int) != 36) || (decide ((s.length:Int)≤bI ((i:Int) + 1))))=true then some true else aA (idx s (bI ((i:Int) + 1))) fun x2=>if ((x2.toNat:Int) != 36)=true then aA (idx s (bI ((i:Int) + 1))) fun x3=>some ((x3.toNat:Int) != 123) else some false)=some true:=by
      rw [w1]; by_cases a1:s[i]=36
      ·
       by_cases hlt1:i + 1 < s.length
       ·
        have n36:¬ s[i + 1]=36:=fun h=>hA ⟨a1,by rw [List.getElem?_eq_getElem hlt1,h]⟩; have n123:¬ s[i + 1]=123:=fun h=>hB ⟨a1,by rw [List.getElem?_eq_getElem hlt1,h]⟩
        have m36:((s[i + 1].toNat:Int) != 36)=true:=by
         rw [bne_iff_ne]; intro h; exact n36 (UInt8.toNat_inj.1 (show s[i + 1].toNat=36 by omega))
        have ad4:((s[i + 1].toNat:Int) != 123)=true:=by
         rw [bne_iff_ne]; intro h; exact n123 (UInt8.toNat_inj.1 (show s[i + 1].toNat=123 by omega))
        rw [if_neg (by rw [a1]; simp; omega)]; simp only [kL hlt1,ak,m36,ad4,if_true]
       · rw [if_pos (by simp; right; omega)]
      ·
       have m36:((s[i].toNat:Int) != 36)=true:=by
        rw [bne_iff_ne]; intro h; exact a1 (UInt8.toNat_inj.1 (show s[i].toNat=36 by omega))
       rw [if_pos (by rw [m36]; simp)]
     rw [adZ,if_neg (by simp),hb1,ak,if_pos rfl,w1]; exact Qh s[i] (i + 1) (by omega) (by omega) (by omega)
  ·
   have e1:decide ((i:Int) < (s.length:Int))=false:=decide_eq_false (by omega); have hr:=Qr ps t; simp only [e1,Bool.false_eq_true,if_false]; rw [QZ (by omega),ak]; exact ⟨_,_,_,rfl,rfl,Np (by omega) hg,by omega,fun h=>absurd rfl h⟩
end Go.Ft
namespace Go.Ft
open Go
attribute [local congr] iH
theorem parts_eq (s:Str):∃ (l:List aR) (a c:Int),rH s=some (l,a,c)∧AA s=some (l,a,c)∧(∀ p∈l,Oa p)∧l.length≤10000∧(c≠0→l=[]):=by
 unfold rH AA; rcases Nat.lt_or_ge 4096 s.length with h | h
 ·
  rw [if_pos (decide_eq_true (by omega)),if_pos (decide_eq_true (by omega))]; exact ⟨[],0,3,rfl,rfl,by simp,by simp,fun _=>rfl⟩
 ·
  rw [if_neg (by simp; omega),if_neg (by simp; omega)]; have hB:=jV; exact EW h (s.length + 1) 0 BIG BIG [] [] (by omega) (by omega) (by omega) (Nat.zero_le _) (.inl rfl) (by simp) (by simp) (by simp)
end Go.Ft
namespace Go.Ft
open Go
attribute [local congr] iH
theorem Ll (c:UInt8):(c / 64).toNat < 4:=by
 have:=c.toNat_lt; rw [UInt8.toNat_div]; show c.toNat / 64 < 4; omega
end Go.Ft
namespace Go.Ft
open Go
attribute [local congr] iH
def VY :List (BitVec 64):=[18446744073709551615,18446744073709551615,18446744073709551615,18446744073709551615]
end Go.Ft
namespace Go.Ft
open Go
def zL (e1:aF) (c1:UInt8):Nat→Int→Option Bool
 | 0,_=>none
 | dw + 1,i1=>
  if decide (i1 < (e1.items.length:Int)) then
   aA (idx e1.items i1) fun e2=>
   aA (
     if decide (((e2.getD 0 0).toNat:Int)≤(c1.toNat:Int)) then
      aA (idx e1.items i1) fun e3=>
      some (decide ((c1.toNat:Int)≤((e3.getD 1 0).toNat:Int)))
     else
      some false) fun b1=>
   if b1 then
    some true
   else
    zL e1 c1 dw (bI (i1 + 1))
  else
   some false
def Kw (e1:aF) (c1:UInt8):Option Bool:=
 if e1.kind == 1 then
  some true
 else
  if (e1.kind != 5) && ((c1.toNat:Int) == 47) then
   some false
  else
   if (e1.kind == 2) || (e1.kind == 3) then
    some true
   else
    zL e1 c1 BIG 0
end Go.Ft
namespace Go.Ft
open Go
attribute [local congr] iH
def hasB (s:List (BitVec 64)) (c:UInt8):Bool:=(s.getD (c / 64).toNat 0).getLsbD (c % 64).toNat
theorem ads (c:UInt8):(c / 64).toNat=c.toNat / 64:=UInt8.toNat_div ..
theorem RJ (c:UInt8):(c % 64).toNat=c.toNat % 64:=UInt8.toNat_mod ..
theorem Lb (s:List (BitVec 64)) {n:Nat} (h:n < 4):([(s.getD 0 0),(s.getD 1 0),(s.getD 2 0),(s.getD 3 0)]:List (BitVec 64))[n]?=some (s.getD n 0):=by
 have:n=0∨n=1∨n=2∨n=3:=by omega
 rcases this with rfl | rfl | rfl | rfl <;> rfl
theorem La (s:List (BitVec 64)) (c:UInt8):idx ([(s.getD 0 0),(s.getD 1 0),(s.getD 2 0),(s.getD 3 0)]:List (BitVec 64)) ((c / 64).toNat:Int)=some (s.getD (c / 64).toNat 0):=by
 rw [OQ,Lb s (Ll c)]
theorem Ug {m n:Nat} (s:List (BitVec 64)) (x:BitVec 64) (hm:m < 4) (hn:n < 4):(List.set ([(s.getD 0 0),(s.getD 1 0),(s.getD 2 0),(s.getD 3 0)]:List (BitVec 64)) m x).getD n 0=if n=m then x else s.getD n 0:=by
 rw [List.getD_eq_getElem?_getD,List.getElem?_set]; by_cases h:m=n
 · subst h; simp [hm]
 · rw [if_neg h,if_neg (fun e=>h e.symm),Lb s hn]; rfl
theorem jJ (y:List (BitVec 64)) (c:UInt8):hasB ([(y.getD 0 0),(y.getD 1 0),(y.getD 2 0),(y.getD 3 0)]:List (BitVec 64)) c=hasB y c:=by
 unfold hasB; rw [List.getD_eq_getElem?_getD,Lb y (Ll c)]; rfl
theorem UH (c d:UInt8):(c == d)=(decide ((c / 64).toNat=(d / 64).toNat) && decide ((c % 64).toNat=(d % 64).toNat)):=by
 rw [Bool.eq_iff_iff]; simp only [beq_iff_eq,Bool.and_eq_true,decide_eq_true_eq,ads,RJ,←UInt8.toNat_inj]; omega
theorem Uf {k m:Nat} (hk:k < 64) (hm:m < 64):((1:BitVec 64) <<< m).getLsbD k=decide (k=m):=by
 rw [BitVec.getLsbD_shiftLeft]; by_cases h2:k=m
 · subst h2; simp [hk]
 ·
  rcases Nat.lt_or_ge k m with h3 | h3
  · simp [h3,h2]
  ·
   have:k - m≠0:=by omega
   have h4:((1:BitVec 64)).getLsbD (k - m)=false:=by
    rw [show (1:BitVec 64)=1#64 from rfl,BitVec.getLsbD_one]; simp [this]
   rw [h4,Bool.and_false,decide_eq_false h2]
theorem Px (s:List (BitVec 64)) (d:UInt8):∃ r,lZ s d=some r∧∀ c,hasB r c=(hasB s c || c == d):=by
 unfold lZ; rw [La]; simp only [ak]; refine ⟨_,rfl,fun c=>?_⟩; rw [jJ]; unfold hasB; rw [show (Int.toNat ((d / 64).toNat:Int))=(d / 64).toNat from by omega,Ug s _ (Ll d) (Ll c),UH]; have hk:(c % 64).toNat < 64:=by rw [RJ]; omega
 by_cases h:(c / 64).toNat=(d / 64).toNat
 ·
  rw [if_pos h,h,BitVec.getLsbD_or]; congr 1; rw [decide_eq_true rfl,Bool.true_and]; exact Uf hk (by rw [RJ]; omega)
 · rw [if_neg h,decide_eq_false h,Bool.false_and,Bool.or_false]
theorem Q9 (s:List (BitVec 64)) (d:UInt8):∃ r,qw s d=some r∧∀ c,hasB r c=(hasB s c && !(c == d)):=by
 unfold qw; rw [La]; simp only [ak]; refine ⟨_,rfl,fun c=>?_⟩; rw [jJ]; unfold hasB; rw [show (Int.toNat ((d / 64).toNat:Int))=(d / 64).toNat from by omega,Ug s _ (Ll d) (Ll c),UH]; have hk:(c % 64).toNat < 64:=by rw [RJ]; omega
 by_cases h:(c / 64).toNat=(d / 64).toNat
 ·
  rw [if_pos h,h,BitVec.getLsbD_and]; congr 1; rw [decide_eq_true rfl,Bool.true_and,BitVec.getLsbD_not,Uf hk (by rw [RJ]; omega),decide_eq_true hk,Bool.true_and]
 · rw [if_neg h,decide_eq_false h,Bool.false_and,Bool.not_false,Bool.and_true]
def XB (m:aF):Bool:=(m.kind == 1) || (m.kind == 2)
structure Rel (e:dD) (m:aF):Prop where
 many:e.many=XB m
 fits:∀ c,Kw m c=some (hasB e.set c)
structure Yf (L:List dD) (M:List aF):Prop where
 len:L.length=M.length
 rel:∀ i (h:i < L.length) (h':i < M.length),Rel L[i] M[i]
end Go.Ft
namespace Go.Ft
open Go
attribute [local congr] iH
def Mx (l:List (List UInt8)) (c:UInt8):Bool:=l.any fun it=>decide ((it.getD 0 0).toNat≤c.toNat) && decide (c.toNat≤(it.getD 1 0).toNat)
theorem NK (e:aF) (hl:e.items.length≤10000) (c:UInt8):∀ (k i:Nat),e.items.length < k + i→i≤e.items.length→zL e c k (i:Int)=some (Mx (e.items.drop i) c)
 | 0,i,h,h'=>by omega
 | k + 1,i,h,h'=>by
  rw [zL]; by_cases hi:i < e.items.length
  ·
   rw [if_pos (show decide ((i:Int) < (e.items.length:Int))=true by simp; omega),kL hi,ak,kK (by omega),List.drop_eq_getElem_cons hi]; have ih:=NK e hl c k (i + 1) (by omega) (by omega); simp only [ak,Mx,List.any_cons]; unfold Mx at ih; generalize e.items[i]=it at *; by_cases h1:(it.getD 0 0).toNat≤c.toNat
   ·
    by_cases h2:c.toNat≤(it.getD 1 0).toNat
    ·
     have a1:decide (((it.getD 0 0).toNat:Int)≤(c.toNat:Int))=true:=by simp only [decide_eq_true_eq]; omega
     have a2:decide ((c.toNat:Int)≤((it.getD 1 0).toNat:Int))=true:=by simp only [decide_eq_true_eq]; omega
     rw [a1,a2,decide_eq_true h1,decide_eq_true h2]; rfl
    ·
     have a1:decide (((it.getD 0 0).toNat:Int)≤(c.toNat:Int))=true:=by simp only [decide_eq_true_eq]; omega
     have a2:decide ((c.toNat:Int)≤((it.getD 1 0).toNat:Int))=false:=by simp only [decide_eq_false_iff_not]; omega
     rw [a1,a2,decide_eq_true h1,decide_eq_false h2]; simp only [if_true,ak,Bool.false_eq_true,if_false,Bool.and_false,Bool.false_or]; exact ih
   ·
    have a1:decide (((it.getD 0 0).toNat:Int)≤(c.toNat:Int))=false:=by simp only [decide_eq_false_iff_not]; omega
    rw [a1,decide_eq_false h1]; simp only [ak,Bool.false_eq_true,if_false,Bool.false_and,Bool.false_or]; exact ih
  ·
   have:i=e.items.length:=by omega
   subst this; rw [if_neg (show ¬ decide ((e.items.length:Int) < (e.items.length:Int))=true by simp),List.drop_length]; rfl
theorem ad6 (c:UInt8):((c.toNat:Int) == 47)=(c == 47):=by
 rw [Bool.eq_iff_iff]; simp only [beq_iff_eq,←UInt8.toNat_inj]; simp only [show (47:UInt8).toNat=47 from rfl]; omega
theorem Gl (e:aF) (hl:e.items.length≤10000) (c:UInt8):Kw e c=some (if e.kind == 1 then true else if (e.kind != 5) && (c == 47) then false else if (e.kind == 2) || (e.kind == 3) then true else Mx e.items c):=by
 unfold Kw; rw [ad6]; have:=NK e hl c BIG 0 (by have:=jV; omega) (by omega); rw [show ((0:Nat):Int)=0 from rfl,List.drop_zero] at this; rw [this]; split
 · rfl
 ·
  split
  · rfl
  · split <;> rfl
theorem UL (c:UInt8):hasB VY c=true:=by
 have h:(List.range 256).all (fun n=>hasB VY (UInt8.ofNat n))=true:=by decide +kernel
 have:=List.all_eq_true.1 h c.toNat (List.mem_range.2 c.toNat_lt); simpa using this
theorem PG (c:UInt8):hasB ([0,0,0,0]:List (BitVec 64)) c=false:=by
 unfold hasB; have h:=Ll c; have:(c / 64).toNat=0∨(c / 64).toNat=1∨(c / 64).toNat=2∨(c / 64).toNat=3:=by omega
 rcases this with h | h | h | h <;> rw [h] <;> exact BitVec.getLsbD_zero
theorem Vp :ug true=some VY:=rfl
theorem SV :∃ r,ug false=some r∧∀ c,hasB r c=!(c == 47):=by
 unfold ug; obtain ⟨r,h1,h2⟩:=Q9 VY 47; unfold VY at h1; refine ⟨_,by simp only [Bool.not_false,if_true,h1,ak]; rfl,fun c=>?_⟩; rw [jJ,h2,UL,Bool.true_and]
theorem KW (d:UInt8):∃ e,rM d=some e∧Rel e ⟨5,[[d,d]]⟩:=by
 unfold rM; obtain ⟨r,h1,h2⟩:=Px ([0,0,0,0]:List (BitVec 64)) d; rw [h1,ak]; refine ⟨_,rfl,⟨rfl,fun c=>?_⟩⟩; rw [Gl _ (by simp),jJ,h2,PG,Bool.false_or]; simp only [show ((5:Int) == 1)=false from rfl,show ((5:Int) != 5)=false from rfl,show ((5:Int) == 2)=false from rfl,show ((5:Int) == 3)=false from rfl,Bool.false_and,Bool.false_eq_true,if_false,Bool.or_self,Mx,List.any_cons,List.any_nil,Bool.or_false]; congr 1; rw [Bool.eq_iff_iff]; simp only [Bool.and_eq_true,decide_eq_true_eq,beq_iff_eq,←UInt8.toNat_inj]; show d.toNat≤c.toNat∧c.toNat≤d.toNat↔_; omega
theorem Ma {c:Nat} (h:c < 256):(Ft.byteOf (c:Int)).toNat=c:=by
 unfold Ft.byteOf; simp; omega
theorem Z7 (bO n1:Int) (uS:UInt8) (n2:Int) (go:Int→List (BitVec 64)→Option (List (BitVec 64) × Int)) (at2:Int) (hat:bI (bI (bO + n1) + bI (1 + n2))=at2):∀ (k c:Nat) (o:List (BitVec 64)),257 < k + c→c≤256→
  ∃ o',oC bO n1 uS n2 go k (c:Int) o=go at2 o'∧∀ x,hasB o' x=(hasB o x || (decide (c≤x.toNat) && decide (x.toNat≤uS.toNat)))
 | 0,c,o,h,h'=>by omega
 | k + 1,c,o,h,h'=>by
  rw [oC]; have hl:=uS.toNat_lt; by_cases hc:(c:Int)≤(uS.toNat:Int)
  ·
   obtain ⟨y,hy,hy2⟩:=Px ([(o.getD 0 0),(o.getD 1 0),(o.getD 2 0),(o.getD 3 0)]:List (BitVec 64)) (Ft.byteOf (c:Int)); rw [if_pos (by simpa using hc),hy,ak,kK (by omega)]; obtain ⟨o',h1,h2⟩:=Z7 bO n1 uS n2 go at2 hat k (c + 1) ([(y.getD 0 0),(y.getD 1 0),(y.getD 2 0),(y.getD 3 0)]:List (BitVec 64)) (by omega) (by omega); refine ⟨o',h1,fun x=>?_⟩; rw [h2,jJ,hy2,jJ,Bool.or_assoc]; congr 1; rw [Bool.eq_iff_iff]; simp only [Bool.or_eq_true,Bool.and_eq_true,decide_eq_true_eq,beq_iff_eq,←UInt8.toNat_inj,Ma (show c < 256 by omega)]; omega
  ·
   rw [if_neg (by simpa using hc),hat]; refine ⟨_,rfl,fun x=>?_⟩; rw [jJ]
   have:(decide (c≤x.toNat) && decide (x.toNat≤uS.toNat))=false:=by
    rw [Bool.and_eq_false_iff]; simp only [decide_eq_false_iff_not]; omega
   rw [this,Bool.or_false]
theorem Z6 (bO:Int) (lQ:UInt8) (n1:Int) (go:Int→List (BitVec 64)→Option (List (BitVec 64) × Int)) (at2:Int) (hat:bI (bO + n1)=at2):∀ (k c:Nat) (o:List (BitVec 64)),257 < k + c→c≤256→
  ∃ o',oz bO lQ n1 go k (c:Int) o=go at2 o'∧∀ x,hasB o' x=(hasB o x || (decide (c≤x.toNat) && decide (x.toNat≤lQ.toNat)))
 | 0,c,o,h,h'=>by omega
 | k + 1,c,o,h,h'=>by
  rw [oz]; have hl:=lQ.toNat_lt; by_cases hc:(c:Int)≤(lQ.toNat:Int)
  ·
   obtain ⟨y,hy,hy2⟩:=Px ([(o.getD 0 0),(o.getD 1 0),(o.getD 2 0),(o.getD 3 0)]:List (BitVec 64)) (Ft.byteOf (c:Int)); rw [if_pos (by simpa using hc),hy,ak,kK (by omega)]; obtain ⟨o',h1,h2⟩:=Z6 bO lQ n1 go at2 hat k (c + 1) ([(y.getD 0 0),(y.getD 1 0),(y.getD 2 0),(y.getD 3 0)]:List (BitVec 64)) (by omega) (by omega); refine ⟨o',h1,fun x=>?_⟩; rw [h2,jJ,hy2,jJ,Bool.or_assoc]; congr 1; rw [Bool.eq_iff_iff]; simp only [Bool.or_eq_true,Bool.and_eq_true,decide_eq_true_eq,beq_iff_eq,←UInt8.toNat_inj,Ma (show c < 256 by omega)]; omega
  ·
   rw [if_neg (by simpa using hc),hat]; refine ⟨_,rfl,fun x=>?_⟩; rw [jJ]
   have:(decide (c≤x.toNat) && decide (x.toNat≤lQ.toNat))=false:=by
    rw [Bool.and_eq_false_iff]; simp only [decide_eq_false_iff_not]; omega
   rw [this,Bool.or_false]
theorem BO {P:Str} {b:Nat} (h:b < P.length):nI P (b:Int)=some P[b]:=by
 unfold nI; rw [if_pos (by simp; omega),kL h]
theorem Dp {P:Str} {b:Nat} (h:P.length≤b):nI P (b:Int)=some 0:=by
 unfold nI; rw [if_neg (by simp; omega)]
theorem IZ {P:Str} (hP:P.length≤4096) {b:Nat} (hb:b≤P.length):∃ c n c' nx ok,qx (P.drop b)=some (c,((n:Nat):Int))∧tC P (b:Int)=some (c',nx,ok)∧(n=0∧ok=false∨0 < n∧ok=true∧c'=c∧nx=((b + n:Nat):Int)∧b + n≤P.length):=by
 by_cases hlt:b < P.length
 ·
  have XR:P.drop b=P[b] :: P.drop (b + 1):=List.drop_eq_getElem_cons hlt
  have h0:idx (P.drop b) 0=some P[b]:=by
   have:=kL (l:=P.drop b) (i:=0) (by simp; omega); simpa using this
  have hne:(P.drop b == ([]:Str))=false:=by rw [XR]; rfl
  have e1:bI ((b:Int) + 1)=((b + 1:Nat):Int):=kK (by omega); have e2:bI (((b + 1:Nat):Int) + 1)=((b + 1 + 1:Nat):Int):=kK (by omega); unfold qx tC; rw [h0,hne,kL hlt,e1,e2]; have hin:decide ((b:Int) < (P.length:Int))=true:=by simp; omega
  have hin2:decide ((P.length:Int)≤(b:Int))=false:=by simp; omega
  rw [hin,hin2]; simp only [Bool.false_eq_true,if_false,if_true,ak]; by_cases NH:(P[b].toNat:Int)=92
  ·
   have n93:((P[b].toNat:Int) == 93)=false:=by rw [NH]; rfl
   have n45:((P[b].toNat:Int) == 45)=false:=by rw [NH]; rfl
   have n92:((P[b].toNat:Int) != 92)=false:=by rw [NH]; rfl
   have y92:((P[b].toNat:Int) == 92)=true:=by rw [NH]; rfl
   rw [n93,n45,n92,y92]; simp only [Bool.false_eq_true,if_false,if_true,ak]; by_cases hl2:b + 1 < P.length
   ·
    have h1:idx (P.drop b) 1=some (P[b + 1]'hl2):=by
     have:=kL (l:=P.drop b) (i:=1) (by simp; omega); simpa using this
    rw [if_neg (by simp; omega),h1,ak,BO hl2,ak]; exact ⟨_,2,_,_,_,rfl,rfl,.inr ⟨by omega,by simp; omega,rfl,rfl,by omega⟩⟩
   ·
    rw [if_pos (by simp; omega),Dp (by omega),ak]; exact ⟨_,0,_,_,_,rfl,rfl,.inl ⟨rfl,by simp; omega⟩⟩
  ·
   have n92:((P[b].toNat:Int) != 92)=true:=by simpa using NH
   have y92:((P[b].toNat:Int) == 92)=false:=by simpa using NH
   rw [n92,y92]; simp only [Bool.false_eq_true,if_false,if_true,ak]; by_cases h93:(P[b].toNat:Int)=93
   ·
    rw [show ((P[b].toNat:Int) == 93)=true from by rw [h93]; rfl]; exact ⟨0,0,0,_,false,by simp,by simp; rfl,.inl ⟨rfl,rfl⟩⟩
   ·
    rw [show ((P[b].toNat:Int) == 93)=false from by simpa using h93]; by_cases h45:(P[b].toNat:Int)=45
    ·
     rw [show ((P[b].toNat:Int) == 45)=true from by rw [h45]; rfl]; exact ⟨0,0,0,_,false,by simp,by simp; rfl,.inl ⟨rfl,rfl⟩⟩
    ·
     rw [show ((P[b].toNat:Int) == 45)=false from by simpa using h45]; exact ⟨P[b],1,P[b],((b + 1:Nat):Int),true,by simp,by simp,.inr ⟨by omega,rfl,rfl,rfl,by omega⟩⟩
 ·
  have:b=P.length:=by omega
  subst this; refine ⟨0,0,0,(P.length:Int),false,by rw [List.drop_length]; rfl,?_,.inl ⟨rfl,rfl⟩⟩; unfold tC; simp
end Go.Ft
namespace Go.Ft
open Go
attribute [local congr] iH
def abS (P:Str) (a:Nat) (r:List (BitVec 64) × Int) (q:aF × Int × Bool):Prop:=
 (r.2=0∧q.2.2=false)∨∃ n:Nat,0 < n∧r.2=(n:Int)∧q.2.2=true∧q.2.1=((a + n:Nat):Int)∧a + n≤P.length∧q.1.kind=4∧q.1.items.length≤10000∧∀ c,hasB r.1 c=(Mx q.1.items c && !(c == 47))
theorem QW (l:List (List UInt8)) (x y:UInt8) (c:UInt8):Mx (l ++ [([x,y]:List UInt8)]) c=(Mx l c || (decide (x.toNat≤c.toNat) && decide (c.toNat≤y.toNat))):=by
 unfold Mx; rw [List.any_append]; simp
theorem dlt {a b:Nat} (h:a < b):decide ((a:Int) < (b:Int))=true:=decide_eq_true (Int.ofNat_lt.2 h)
theorem dge {a b:Nat} (h:b≤a):¬ decide ((a:Int) < (b:Int))=true:=by rw [decide_eq_false (by omega)]; simp
theorem Tw {P:Str} {b:Nat} (hlt:b < P.length) (h93:(P[b].toNat:Int)=93):qx (P.drop b)=some (0,0):=by
 have XR:P.drop b=P[b] :: P.drop (b + 1):=List.drop_eq_getElem_cons hlt
 have h0:idx (P.drop b) 0=some P[b]:=by
  have:=kL (l:=P.drop b) (i:=0) (by simp; omega); simpa using this
 have hne:(P.drop b == ([]:Str))=false:=by rw [XR]; rfl
 unfold qx; rw [h0,hne]; simp [h93]
theorem Fp {P:Str} (hP:P.length≤4096) {a:Nat} (ha:a < P.length):∀ (k t:Nat) (o:List (BitVec 64)) (e:aF),P.length < k + (a + t)→1≤t→a + t≤P.length→e.kind=4→(e.items=[]↔t=1)→e.items.length≤t→(∀ c,hasB o c=Mx e.items c)→
  ∃ r q,iY (P.drop a) k (t:Int) o=some r∧pz P k ((a + t:Nat):Int) e=some q∧abS P a r q
 | 0,t,o,e,h,_,_,_,_,_,_=>by omega
 | k + 1,t,o,e,h,h1,h2,hk,hit,hil,ho=>by
  rw [iY,pz]; have V9:(P.drop a).length=P.length - a:=List.length_drop ..; obtain ⟨c1,n1,c1',nx1,ok1,g1,g2,g3⟩:=IZ hP (b:=a + t) h2; have hdr:(P.drop a).drop t=P.drop (a + t):=by rw [List.drop_drop]
  have fail:n1=0∧ok1=false→∃ r,(aA (sl (P.drop a) (t:Int) ((P.drop a).length:Int)) fun x2=>iA (qx x2) fun lQ n1=>if (n1 == 0)=true then some (([(o.getD 0 0),(o.getD 1 0),(o.getD 2 0),(o.getD 3 0)]:List (BitVec 64)),(0:Int)) else
    aA (if decide ((bI ((t:Int) + n1)) < ((P.drop a).length:Int))=true then aA (idx (P.drop a) (bI ((t:Int) + n1))) fun x3=>some ((x3.toNat:Int) == 45) else some false) fun b3=>
    if b3=true then aA (sl (P.drop a) (bI ((bI ((t:Int) + n1)) + 1)) ((P.drop a).length:Int)) fun x4=>iA (qx x4) fun uS n2=>
     if ((n2 == 0) || (decide ((uS.toNat:Int) < (lQ.toNat:Int))))=true then some (([(o.getD 0 0),(o.getD 1 0),(o.getD 2 0),(o.getD 3 0)]:List (BitVec 64)),(0:Int))
     else oC (t:Int) n1 uS n2 (iY (P.drop a) k) BIG (lQ.toNat:Int) ([(o.getD 0 0),(o.getD 1 0),(o.getD 2 0),(o.getD 3 0)]:List (BitVec 64))
    else oz (t:Int) lQ n1 (iY (P.drop a) k) BIG (lQ.toNat:Int) ([(o.getD 0 0),(o.getD 1 0),(o.getD 2 0),(o.getD 3 0)]:List (BitVec 64)))=some r∧r.2=0:=by
   rintro ⟨rfl,rfl⟩; rw [qA (by omega),ak,hdr,g1,aC]; exact ⟨_,rfl,rfl⟩
  by_cases hend:P.length≤a + t
  ·
   
   have heq:a + t=P.length:=by clear fail; omega
   have hbad:n1=0∧ok1=false:=by
    rcases g3 with g3 | ⟨g4,_,_,_,g3⟩
    · exact g3
    · exact absurd g3 (by clear fail; omega)
   rw [Dp hend,ak,g2,aB,hbad.2]; rw [if_pos (show (((((0:UInt8).toNat:Int)) != 93) || (decide ((P.length:Int)≤((a + t:Nat):Int))))=true by simp)]; simp only [Bool.not_false,if_true]; by_cases ht:t=1
   ·
    subst ht; rw [if_pos (by rfl),ak,if_pos rfl]; obtain ⟨r,hr,hr2⟩:=fail hbad; exact ⟨r,_,hr,rfl,.inl ⟨hr2,rfl⟩⟩
   ·
    rw [if_neg (show ¬ (((t:Nat):Int) == 1)=true by clear fail; simp; omega),if_neg (dge (show (P.drop a).length≤t by clear fail; rw [V9]; omega)),ak]; simp only [Bool.false_eq_true,if_false]; rw [if_pos (show decide (((P.drop a).length:Int)≤(t:Int))=true by clear fail; simp; omega)]; exact ⟨_,_,rfl,rfl,.inl ⟨rfl,rfl⟩⟩
  ·
   have hlt:a + t < P.length:=by clear fail; omega
   have hQt:(P.drop a)[t]'(by clear fail; omega)=P[a + t]:=by simp
   rw [BO hlt,ak]; have hdec:decide ((P.length:Int)≤((a + t:Nat):Int))=false:=by simp; omega
   rw [hdec,Bool.or_false]; by_cases h93:(P[a + t].toNat:Int)=93
   ·
    
    have x93:((P[a + t].toNat:Int) != 93)=false:=by rw [h93]; rfl
    rw [x93]; simp only [Bool.false_eq_true,if_false]; have e1:bI (((a + t:Nat):Int) + 1)=((a + t + 1:Nat):Int):=kK (by clear fail; omega); rw [e1]; by_cases ht:t=1
    ·
     have hnil:=hit.2 ht; subst ht; rw [if_pos (by rfl),ak,if_pos rfl]
     have hbad:n1=0∧ok1=false:=by
      rcases g3 with g3 | ⟨g4,g5,g6,g7,g8⟩
      · exact g3
      ·
       exfalso; rw [Tw hlt h93] at g1; simp at g1; clear fail; omega
     obtain ⟨r,hr,hr2⟩:=fail hbad; exact ⟨r,_,hr,rfl,.inl ⟨hr2,by rw [hnil]; rfl⟩⟩
    ·
     have hne:e.items≠[]:=fun h=>ht (hit.1 h); rw [if_neg (show ¬ (((t:Nat):Int) == 1)=true by clear fail; simp; omega),if_pos (dlt (show t < (P.drop a).length by clear fail; rw [V9]; omega)),kL (show t < (P.drop a).length by clear fail; omega),hQt,ak,ak,x93]; simp only [Bool.false_eq_true,if_false]; rw [if_neg (show ¬ decide (((P.drop a).length:Int)≤(t:Int))=true by clear fail; simp; omega)]; obtain ⟨y,hy1,hy2⟩:=Q9 ([(o.getD 0 0),(o.getD 1 0),(o.getD 2 0),(o.getD 3 0)]:List (BitVec 64)) 47; rw [hy1,ak,kK (by clear fail; omega)]; refine ⟨_,_,rfl,rfl,.inr ⟨t + 1,by clear fail; omega,rfl,?_,rfl,by clear fail; omega,hk,(by show e.items.length≤10000; clear fail; omega),fun c=>?_⟩⟩
     ·
      have:0 < e.items.length:=List.length_pos_iff.2 hne; clear fail; simp; omega
     · rw [jJ,hy2,jJ,ho]
   ·
    have x93:((P[a + t].toNat:Int) != 93)=true:=by simpa using h93
    rw [x93]; simp only [if_true]
    have hb1:(if (((t:Nat):Int) == 1)=true then some true else if decide ((t:Int) < ((P.drop a).length:Int))=true then aA (idx (P.drop a) (t:Int)) fun x1=>some ((x1.toNat:Int) != 93) else some false)=some true:=by
     by_cases ht:t=1
     · subst ht; rfl
     · rw [if_neg (show ¬ (((t:Nat):Int) == 1)=true by clear fail; simp; omega),if_pos (dlt (show t < (P.drop a).length by clear fail; rw [V9]; omega)),kL (show t < (P.drop a).length by clear fail; omega),hQt,ak,x93]
    rw [hb1,ak,g2,aB]; simp only [if_true]; rcases g3 with hbad | ⟨g4,g5,g6,g7,g8⟩
    ·
     obtain ⟨r,hr,hr2⟩:=fail hbad; rw [hbad.2]; exact ⟨r,_,hr,rfl,.inl ⟨hr2,rfl⟩⟩
    ·
     subst g5 g7; have g6:=g6.symm; subst g6; rw [qA (by clear fail; omega),ak,hdr,g1,aC,if_neg (show ¬ (((n1:Nat):Int) == 0)=true by clear fail; simp; omega)]; simp only [Bool.not_true,Bool.false_eq_true,if_false]; have e1:bI ((t:Int) + (n1:Int))=((t + n1:Nat):Int):=by rw [Mk (by clear fail; omega)]; clear fail; omega
     rw [e1]; have hc1:=c1.toNat_lt; by_cases XQ:a + t + n1 < P.length∧(P[a + t + n1]?.getD 0).toNat=45
     ·
      obtain ⟨d1,d2⟩:=XQ; have d3:P[a + t + n1]?.getD 0=P[a + t + n1]:=by rw [List.getElem?_eq_getElem d1]; rfl
      rw [d3] at d2; have d4:(P.drop a)[t + n1]'(by clear fail; omega)=P[a + t + n1]:=by simp [Nat.add_assoc]
      have d5:((P[a + t + n1].toNat:Int) == 45)=true:=by rw [d2]; rfl
      rw [if_pos (dlt (show t + n1 < (P.drop a).length by clear fail; rw [V9]; omega)),kL (show t + n1 < (P.drop a).length by clear fail; omega),d4,ak,d5,ak,if_pos rfl,BO d1,ak,d5,if_pos rfl]; obtain ⟨c2,n2,c2',nx2,ok2,f1,f2,f3⟩:=IZ hP (b:=a + t + n1 + 1) (by clear fail; omega); have e2:bI (((t + n1:Nat):Int) + 1)=((t + n1 + 1:Nat):Int):=kK (by clear fail; omega); have e3:bI (((a + t + n1:Nat):Int) + 1)=((a + t + n1 + 1:Nat):Int):=kK (by clear fail; omega); have e4:(P.drop a).drop (t + n1 + 1)=P.drop (a + t + n1 + 1):=by rw [List.drop_drop,show a + (t + n1 + 1)=a + t + n1 + 1 from by clear fail; omega]
      rw [e2,e3,qA (by clear fail; omega),ak,e4,f1,aC,f2,aB]; rcases f3 with ⟨rfl,rfl⟩ | ⟨f4,f5,f6,f7,f8⟩
      · exact ⟨_,_,by rw [if_pos (by rfl)],by rw [if_pos (by rfl)],.inl ⟨rfl,rfl⟩⟩
      ·
       subst f5 f7; have f6:=f6.symm; subst f6; have z2:(((n2:Nat):Int) == 0)=false:=by rw [beq_eq_false_iff_ne]; clear fail; omega
       rw [z2,Bool.false_or,Bool.not_true,Bool.false_or]; by_cases ac6:(c2.toNat:Int) < (c1.toNat:Int)
       ·
        rw [decide_eq_true ac6]; exact ⟨_,_,by rw [if_pos rfl],by rw [if_pos rfl],.inl ⟨rfl,rfl⟩⟩
       ·
        rw [decide_eq_false ac6]; simp only [Bool.false_eq_true,if_false]; obtain ⟨o',p1,p2⟩:=Z7 (t:Int) (n1:Int) c2 (n2:Int) (iY (P.drop a) k) ((t + n1 + 1 + n2:Nat):Int) (by rw [e1,Mk (n:=1 + (n2:Int)) (by clear fail; omega),Mk (by clear fail; omega)]; clear fail; omega) BIG c1.toNat ([(o.getD 0 0),(o.getD 1 0),(o.getD 2 0),(o.getD 3 0)]:List (BitVec 64)) (by have:=jV; omega) (by clear fail; omega); rw [p1,bf (by simp only [List.length_singleton,Fy]; omega),ak]; have hnx:((a + t + n1 + 1 + n2:Nat):Int)=((a + (t + n1 + 1 + n2):Nat):Int):=by clear fail; omega
        rw [hnx]; refine Fp hP ha k (t + n1 + 1 + n2) o' _ (by clear fail; omega) (by clear fail; omega) (by clear fail; omega) hk ⟨fun h=>?_,fun h=>by clear fail; omega⟩ (by clear fail; simp; omega) fun c=>?_
        · simp at h
        · rw [p2,jJ,ho]; simp only [QW]
     ·
      have hb3:(if decide (((t + n1:Nat):Int) < ((P.drop a).length:Int))=true then aA (idx (P.drop a) ((t + n1:Nat):Int)) fun x3=>some ((x3.toNat:Int) == 45) else some false)=some false:=by
       by_cases d1:a + t + n1 < P.length
       ·
        have d4:(P.drop a)[t + n1]'(by clear fail; omega)=P[a + t + n1]:=by simp [Nat.add_assoc]
        rw [if_pos (dlt (show t + n1 < (P.drop a).length by clear fail; rw [V9]; omega)),kL (show t + n1 < (P.drop a).length by clear fail; omega),d4,ak]; have:¬ P[a + t + n1].toNat=45:=fun h=>XQ ⟨d1,by rw [List.getElem?_eq_getElem d1]; exact h⟩; congr 1; rw [beq_eq_false_iff_ne]; clear fail; omega
       · rw [if_neg (dge (show (P.drop a).length≤t + n1 by clear fail; rw [V9]; omega))]
      have hlast:∃ x,nI P ((a + t + n1:Nat):Int)=some x∧((x.toNat:Int) == 45)=false:=by
       by_cases d1:a + t + n1 < P.length
       ·
        refine ⟨_,BO d1,?_⟩; have:¬ P[a + t + n1].toNat=45:=fun h=>XQ ⟨d1,by rw [List.getElem?_eq_getElem d1]; exact h⟩; rw [beq_eq_false_iff_ne]; clear fail; omega
       · exact ⟨0,Dp (by clear fail; omega),rfl⟩
      obtain ⟨x,hx1,hx2⟩:=hlast; rw [hb3,ak,hx1,ak,hx2]; simp only [Bool.false_eq_true,if_false]; obtain ⟨o',p1,p2⟩:=Z6 (t:Int) c1 (n1:Int) (iY (P.drop a) k) ((t + n1:Nat):Int) e1 BIG c1.toNat ([(o.getD 0 0),(o.getD 1 0),(o.getD 2 0),(o.getD 3 0)]:List (BitVec 64)) (by have:=jV; omega) (by clear fail; omega); rw [p1,bf (by simp only [List.length_singleton,Fy]; omega),ak]; have hnx:((a + t + n1:Nat):Int)=((a + (t + n1):Nat):Int):=by clear fail; omega
      rw [hnx]; refine Fp hP ha k (t + n1) o' _ (by clear fail; omega) (by clear fail; omega) (by clear fail; omega) hk ⟨fun h=>?_,fun h=>by clear fail; omega⟩ (by clear fail; simp; omega) fun c=>?_
      · simp at h
      · rw [p2,jJ,ho]; simp only [QW]
end Go.Ft
namespace Go.Ft
open Go
attribute [local congr] iH
theorem Yf.snoc {L:List dD} {M:List aF} {e:dD} {m:aF} (h:Yf L M) (hr:Rel e m):Yf (L ++ [e]) (M ++ [m]):=by
 refine ⟨by simp [h.len],fun i h1 h2=>?_⟩; by_cases hi:i < L.length
 ·
  have hm:i < M.length:=by have:=h.len; omega
  rw [List.getElem_append_left hi,List.getElem_append_left hm]; exact h.rel i hi hm
 ·
  have e1:i=L.length:=by simp at h1; omega
  have e2:i=M.length:=by have:=h.len; omega
  rw [List.getElem_append_right (by omega),List.getElem_append_right (by omega)]; simpa using hr
theorem Tg {P:Str} (hP:P.length≤4096) {a:Nat} (ha:a < P.length) (k:Nat) (M:List aF) (hM:M.length≤4096):
  (∃ e,vS (P.drop a)=some (e,0)∧iI P (k + 1) M (a:Int)=some ([],false))∨
  ∃ e m n,0 < n∧a + n≤P.length∧Rel e m∧vS (P.drop a)=some (e,((n:Nat):Int))∧iI P (k + 1) M (a:Int)=iI P k (M ++ [m]) ((a + n:Nat):Int):=by
 have V9:(P.drop a).length=P.length - a:=List.length_drop ..
 have h0:idx (P.drop a) 0=some P[a]:=by
  have:=kL (l:=P.drop a) (i:=0) (by omega); simpa using this
 have ap:∀ m,app M [m]=some (M ++ [m]):=fun m=>bf (by simp only [List.length_singleton,Fy]; omega); have e1:bI ((a:Int) + 1)=((a + 1:Nat):Int):=kK (by omega); have e2:bI ((a:Int) + 2)=((a + 2:Nat):Int):=by rw [Mk (by omega)]; omega
 unfold vS; rw [iI,h0,if_pos (dlt ha),kL ha,e1,e2]; simp only [ak,ap]; obtain ⟨mf,mf1,mf2⟩:=SV
 have Uk:∀ (s:List (BitVec 64)) (b:Bool) (kd:Int),(∀ c,hasB s c=!(c == 47))→(kd=2∧b=true∨kd=3∧b=false)→Rel (dD.mk ([(s.getD 0 0),(s.getD 1 0),(s.getD 2 0),(s.getD 3 0)]:List (BitVec 64)) b false 0) ⟨kd,[]⟩:=by
  intro s b kd hs hkd; rcases hkd with ⟨rfl,rfl⟩ | ⟨rfl,rfl⟩
  ·
   refine ⟨rfl,fun c=>?_⟩; rw [Gl _ (by simp),jJ,hs]; cases c == 47 <;> rfl
  ·
   refine ⟨rfl,fun c=>?_⟩; rw [Gl _ (by simp),jJ,hs]; cases c == 47 <;> rfl
 by_cases h42:(P[a].toNat:Int)=42
 ·
  have y42:((P[a].toNat:Int) == 42)=true:=by rw [h42]; rfl
  rw [y42]; simp only [if_true,mf1,Vp,ak]; by_cases hs:a + 1 < P.length∧((P[a + 1]?.getD 0).toNat:Int)=42
  ·
   obtain ⟨s1,s2⟩:=hs; have s3:P[a + 1]?.getD 0=P[a + 1]:=by rw [List.getElem?_eq_getElem s1]; rfl
   rw [s3] at s2
   have h1:idx (P.drop a) 1=some P[a + 1]:=by
    have:=kL (l:=P.drop a) (i:=1) (by omega); simpa using this
   have y2:((P[a + 1].toNat:Int) == 42)=true:=by rw [s2]; rfl
   have d1:decide (1 < ((P.drop a).length:Int))=true:=by rw [V9]; simp; omega
   rw [d1,h1,BO s1]; simp only [if_true,ak,y2]; refine .inr ⟨_,⟨1,[]⟩,2,by omega,by omega,⟨rfl,fun c=>?_⟩,rfl,rfl⟩; rw [Gl _ (by simp),jJ,UL]; rfl
  ·
   have hb:(if decide (1 < ((P.drop a).length:Int))=true then aA (idx (P.drop a) 1) fun x2=>some ((x2.toNat:Int) == 42) else some false)=some false:=by
    by_cases s1:a + 1 < P.length
    ·
     have h1:idx (P.drop a) 1=some P[a + 1]:=by
      have:=kL (l:=P.drop a) (i:=1) (by omega); simpa using this
     rw [if_pos (show decide (1 < ((P.drop a).length:Int))=true by rw [V9]; simp; omega),h1,ak]; have:¬ (P[a + 1].toNat:Int)=42:=fun h=>hs ⟨s1,by rw [List.getElem?_eq_getElem s1]; exact h⟩; congr 1; rw [beq_eq_false_iff_ne]; exact this
    · rw [if_neg (show ¬ decide (1 < ((P.drop a).length:Int))=true by rw [V9]; simp; omega)]
   have hl:∃ x,nI P ((a + 1:Nat):Int)=some x∧((x.toNat:Int) == 42)=false:=by
    by_cases s1:a + 1 < P.length
    ·
     refine ⟨_,BO s1,?_⟩; have:¬ (P[a + 1].toNat:Int)=42:=fun h=>hs ⟨s1,by rw [List.getElem?_eq_getElem s1]; exact h⟩; rw [beq_eq_false_iff_ne]; exact this
    · exact ⟨0,Dp (by omega),rfl⟩
   obtain ⟨x,x1,x2⟩:=hl; rw [hb,x1]; simp only [ak,x2,Bool.false_eq_true,if_false]; exact .inr ⟨_,⟨2,[]⟩,1,by omega,by omega,Uk mf true 2 mf2 (.inl ⟨rfl,rfl⟩),rfl,rfl⟩
 ·
  have n42:((P[a].toNat:Int) == 42)=false:=by simpa using h42
  rw [n42]; simp only [Bool.false_eq_true,if_false]; by_cases h63:(P[a].toNat:Int)=63
  ·
   have y63:((P[a].toNat:Int) == 63)=true:=by rw [h63]; rfl
   rw [y63]; simp only [if_true,mf1,ak]; exact .inr ⟨_,⟨3,[]⟩,1,by omega,by omega,Uk mf false 3 mf2 (.inr ⟨rfl,rfl⟩),rfl,rfl⟩
  ·
   have n63:((P[a].toNat:Int) == 63)=false:=by simpa using h63
   rw [n63]; simp only [Bool.false_eq_true,if_false]; by_cases h91:(P[a].toNat:Int)=91
   ·
    have y91:((P[a].toNat:Int) == 91)=true:=by rw [h91]; rfl
    rw [y91]; simp only [if_true]; obtain ⟨r,q,c1,c2,c3⟩:=Fp hP ha BIG 1 ([0,0,0,0]:List (BitVec 64)) ⟨4,[]⟩ (by have:=jV; omega) (Nat.le_refl _) (by omega) rfl ⟨fun _=>rfl,fun _=>rfl⟩ (by simp) (fun c=>by rw [PG]; rfl); unfold BU Ed; rw [show ((1:Nat):Int)=1 from rfl] at c1; rw [c1,c2]; obtain ⟨r1,r2⟩:=r; obtain ⟨q1,q2,q3⟩:=q; simp only [aC,aB]; rcases c3 with ⟨z1,z2⟩ | ⟨n,z0,z1,z2,z3,z4,z5,z6,z7⟩
    ·
     simp only at z1 z2; subst z1 z2; exact .inl ⟨_,rfl,by simp⟩
    ·
     simp only at z1 z2 z3 z5 z6 z7; subst z1 z2 z3; simp only [Bool.not_true,Bool.false_eq_true,if_false]; refine .inr ⟨_,q1,n,z0,z4,⟨?_,fun c=>?_⟩,rfl,rfl⟩
     ·
      show false=XB q1; unfold XB; rw [z5]; rfl
     ·
      rw [Gl _ z6,jJ,z7,z5]; simp only [show ((4:Int) == 1)=false from rfl,show ((4:Int) != 5)=true from rfl,show ((4:Int) == 2)=false from rfl,show ((4:Int) == 3)=false from rfl,Bool.true_and,Bool.or_self,Bool.false_eq_true,if_false]; cases c == 47 <;> simp
   ·
    have n91:((P[a].toNat:Int) == 91)=false:=by simpa using h91
    rw [n91]; simp only [Bool.false_eq_true,if_false]; by_cases NH:(P[a].toNat:Int)=92
    ·
     have y92:((P[a].toNat:Int) == 92)=true:=by rw [NH]; rfl
     rw [y92]; simp only [if_true]; by_cases s1:a + 1 < P.length
     ·
      have h1:idx (P.drop a) 1=some P[a + 1]:=by
       have:=kL (l:=P.drop a) (i:=1) (by omega); simpa using this
      obtain ⟨e,l1,l2⟩:=KW P[a + 1]; rw [if_neg (show ¬ decide (((P.drop a).length:Int) < 2)=true by rw [V9]; simp; omega),h1,ak,l1,ak,BO s1,ak,ak,show decide (((a + 1:Nat):Int) < (P.length:Int))=true from dlt s1]; simp only [Bool.not_true,Bool.false_eq_true,if_false]; exact .inr ⟨e,_,2,by omega,by omega,l2,rfl,rfl⟩
     ·
      rw [if_pos (show decide (((P.drop a).length:Int) < 2)=true by rw [V9]; simp; omega),Dp (by omega),ak,ak,show decide (((a + 1:Nat):Int) < (P.length:Int))=false from by rw [decide_eq_false]; omega]; exact .inl ⟨_,rfl,by simp⟩
    ·
     have n92:((P[a].toNat:Int) == 92)=false:=by simpa using NH
     rw [n92]; simp only [Bool.false_eq_true,if_false]; obtain ⟨e,l1,l2⟩:=KW P[a]; rw [l1,ak]; exact .inr ⟨e,_,1,by omega,by omega,l2,rfl,rfl⟩
theorem KF {P:Str} (hP:P.length≤4096):∀ (k a:Nat) (L:List dD) (M:List aF),P.length < k + a→a≤P.length→Yf L M→L.length + (P.length - a)≤4096→
  (∃ L' M',mg k (P.drop a) L=some (L',0)∧iI P k M (a:Int)=some (M',true)∧Yf L' M'∧L'.length≤4096)∨(mg k (P.drop a) L=some ([],5)∧iI P k M (a:Int)=some ([],false))
 | 0,a,L,M,h,h',_,_=>by omega
 | k + 1,a,L,M,h,h',hr,hl=>by
  have hlen:=hr.len; by_cases ha:a < P.length
  ·
   have hne:(!(P.drop a == ([]:Str)))=true:=by
    have:P.drop a≠[]:=by
     intro h; have:=congrArg List.length h; simp at this; omega
    simpa using this
   rw [mg,if_pos hne]; rcases Tg hP ha k M (by omega) with ⟨e,f1,f2⟩ | ⟨e,m,n,f0,f1,f2,f3,f4⟩
   ·
    rw [f1,aC,f2]; exact .inr ⟨by simp,rfl⟩
   ·
    rw [f3,aC,f4,if_neg (show ¬ (((n:Nat):Int) == 0)=true by simp; omega),bf (by simp only [List.length_singleton,Fy]; omega),ak,qA (by simp; omega),ak,List.drop_drop]; exact KF hP k (a + n) _ _ (by omega) f1 (hr.snoc f2) (by simp; omega)
  ·
   rw [mg,iI,List.drop_eq_nil_of_le (by omega),if_neg (by simp),if_neg (dge (by omega))]; exact .inl ⟨L,M,rfl,rfl,hr,by omega⟩
end Go.Ft
namespace Go.Ft
open Go
attribute [local congr] iH
theorem ES (P:Str):∃ e,vT P=some e∧yj P=some e:=by
 unfold vT yj BS Ee; by_cases h:4096 < (P.length:Int)
 · exact ⟨3,by simp [h],by simp [h]⟩
 ·
  simp only [h,decide_false,Bool.false_eq_true,if_false]; have:=KF (P:=P) (by omega) BIG 0 [] [] (by have:=jV; omega) (by omega) ⟨rfl,fun i h=>by simp at h⟩ (by simp; omega); rw [List.drop_zero,show ((0:Nat):Int)=0 from rfl] at this; rcases this with ⟨L,M,p1,p2,p3,p4⟩ | ⟨p1,p2⟩
  · exact ⟨0,by rw [p1,aC],by rw [p2,aC]; simp⟩
  · exact ⟨5,by rw [p1,aC],by rw [p2,aC]; simp⟩
theorem aac (s:Str):strings_TrimPrefix s ([33]:Str)=some (match s with | []=>[] | c :: t=>if c=33 then t else c :: t):=by
 unfold strings_TrimPrefix kS jh; cases s with
 | nil=>rfl
 | cons c t=>
  have e1:=WU (s:=c :: t) (i:=1) (by simp); have e2:=qA (s:=c :: t) (i:=1) (by simp); rw [show ((1:Nat):Int)=1 from rfl] at e1 e2; have h1:decide ((([33]:Str).length:Int)≤((c :: t:Str).length:Int))=true:=by simp; omega
  rw [h1]; simp only [if_true,List.length_singleton,show ((1:Nat):Int)=1 from rfl,e1,e2,ak,List.take_succ_cons,List.take_zero,List.drop_succ_cons,List.drop_zero]; by_cases hc:c=33
  · simp [hc]
  · simp [hc]
theorem OG (s:Str):∃ e,(aA (strings_TrimPrefix s ([33]:Str)) fun x=>vT x)=some e∧wJ s=some e:=by
 rw [aac,ak]; unfold wJ; cases s with
 | nil=>exact ES []
 | cons c t=>
  have h0:idx (c :: t) 0=some c:=by have:=kL (l:=c :: t) (i:=0) (by simp); simpa using this
  have e2:=qA (s:=c :: t) (i:=1) (by simp); rw [show ((1:Nat):Int)=1 from rfl] at e2; simp only [List.drop_succ_cons,List.drop_zero] at e2; rw [if_pos (show decide (0 < ((c :: t:Str).length:Int))=true by simp),h0,ak,ak]; by_cases hc:c=33
  ·
   subst hc; simp only [if_true]; rw [if_pos (show (((33:UInt8).toNat:Int) == 33)=true from rfl),e2,ak]; exact ES t
  ·
   have:((c.toNat:Int) == 33)=false:=by
    rw [beq_eq_false_iff_ne]; intro h; apply hc; rw [←UInt8.toNat_inj]; simp only [show (33:UInt8).toNat=33 from rfl]; omega
   rw [this]; simp only [Bool.false_eq_true,if_false,hc]; exact ES (c :: t)
end Go.Ft
namespace Go.Ft
open Go
attribute [local congr] iH
theorem Lf (c:bF) (hl:c.files.length≤1048576):∀ (k i:Nat),c.files.length < k + i→i≤c.files.length→∃ e,lH c k (i:Int)=some e∧qZ c k (i:Int)=some e
 | 0,i,h,h'=>by omega
 | k + 1,i,h,h'=>by
  rw [lH,qZ]; by_cases hi:i < c.files.length
  ·
   have hd:decide ((i:Int) < (c.files.length:Int))=true:=decide_eq_true (Int.ofNat_lt.2 hi); rw [if_pos hd,if_pos hd,kL hi,ak,ak,kK (by omega)]; obtain ⟨e,h1,h2⟩:=OG c.files[i]; rw [aac,ak] at h1; rw [aac,ak,h1,h2,ak,ak]; split
   · exact ⟨_,rfl,rfl⟩
   · exact Lf c hl k (i + 1) (by omega) (by omega)
  ·
   have hd:¬ decide ((i:Int) < (c.files.length:Int))=true:=by rw [decide_eq_false (by omega)]; simp
   rw [if_neg hd,if_neg hd]; exact ⟨0,rfl,rfl⟩
theorem FN (c:bF) (hl:c.files.length≤1048576) (hr:c.restore.length≤1048576) (hs:∀ s∈c.restore,∃ e,jv s=some e∧oo s=some e):∀ (k i:Nat),c.restore.length < k + i→i≤c.restore.length→∃ e,lI c k (i:Int)=some e∧ru c k (i:Int)=some e
 | 0,i,h,h'=>by omega
 | k + 1,i,h,h'=>by
  rw [lI,ru]; by_cases hi:i < c.restore.length
  ·
   have hd:decide ((i:Int) < (c.restore.length:Int))=true:=decide_eq_true (Int.ofNat_lt.2 hi); rw [if_pos hd,if_pos hd,kL hi,ak,ak,kK (by omega)]; obtain ⟨e,h1,h2⟩:=hs _ (List.getElem_mem hi); rw [h1,h2,ak,ak]; split
   · exact ⟨_,rfl,rfl⟩
   · exact FN c hl hr hs k (i + 1) (by omega) (by omega)
  ·
   have hd:¬ decide ((i:Int) < (c.restore.length:Int))=true:=by rw [decide_eq_false (by omega)]; simp
   rw [if_neg hd,if_neg hd]; have:=Lf c hl BIG 0 (by have:=jV; omega) (by omega); simpa using this
theorem Wt (c:bF) (hl:c.files.length≤1048576) (hr:c.restore.length≤1048576) (hk:∃ e,jv c.key=some e∧oo c.key=some e) (hs:∀ s∈c.restore,∃ e,jv s=some e∧oo s=some e):∃ e,oV c=some e∧Az c=some e:=by
 unfold oV Az; obtain ⟨e,h1,h2⟩:=hk; rw [h1,h2,ak,ak]; split
 · exact ⟨_,rfl,rfl⟩
 ·
  split
  · exact ⟨_,rfl,rfl⟩
  ·
   have:=FN c hl hr hs BIG 0 (by have:=jV; omega) (by omega); simpa using this
end Go.Ft
namespace Go.Ft
open Go
attribute [local congr] iH
theorem Qx {ps:List Str} (hl:ps.length≤1048576):∀ (k i:Nat),ps.length < k + i→i≤ps.length→∃ b,ng ps k (i:Int)=some b
 | 0,i,h,_=>by omega
 | k + 1,i,h,h2=>by
  rw [ng]; by_cases hi:i < ps.length∧i < 10
  ·
   rw [if_pos (by simp; omega),kL hi.1,ak]; split
   · exact ⟨_,rfl⟩
   · rw [kK (by omega)]; exact Qx hl k (i + 1) (by omega) (by omega)
  · rw [if_neg (by simp; omega)]; exact ⟨_,rfl⟩
theorem XV (c:bF):∃ b,vQ (dJ.mk c [] []) BIG 0=some b:=by
 obtain ⟨B,hB⟩:∃ B,BIG=B + 1:=⟨BIG - 1,by have:=jV; omega⟩; rw [hB,vQ]; simp only [List.length_nil,show decide ((0:Int) < ((0:Nat):Int))=false from rfl,Bool.false_eq_true,if_false]; unfold Ef; rw [hB,uU]; exact ⟨_,by simp; rfl⟩
theorem Q5 (c:bF) (hl:c.restore.length≤1048576):∀ (k i:Nat),c.restore.length < k + i→i≤c.restore.length→∃ b,vR (dJ.mk c [] []) k (i:Int)=some b
 | 0,i,h,_=>by omega
 | k + 1,i,h,h2=>by
  rw [vR]; by_cases hi:i < c.restore.length
  ·
   rw [if_pos (show decide ((i:Int) < (c.restore.length:Int))=true from decide_eq_true (Int.ofNat_lt.2 hi)),kL hi,ak]; split
   · exact ⟨_,rfl⟩
   · rw [kK (by omega)]; exact Q5 c hl k (i + 1) (by omega) (by omega)
  ·
   rw [if_neg (show ¬ decide ((i:Int) < (c.restore.length:Int))=true by rw [decide_eq_false (by omega)]; simp)]; exact XV c
theorem Zj (c:bF) (hl:c.restore.length≤1048576) (hf:c.files.length≤1048576):∃ b,Gc (dJ.mk c [] [])=some b:=by
 unfold Gc xS; obtain ⟨p,hp⟩:=Qx hf BIG 0 (by have:=jV; omega) (by omega); obtain ⟨q,hq⟩:=Q5 c hl BIG 0 (by have:=jV; omega) (by omega); rw [show ((0:Nat):Int)=0 from rfl] at hp hq; simp only [hp,hq,ak]; split
 · exact ⟨_,rfl⟩
 · rw [ak]; split <;> exact ⟨_,rfl⟩
theorem UO (c1:bF) (h:bF.bulk c1≤1048576) (hsrc:∀ s:Str,∃ e,jv s=some e∧oo s=some e) (haw:Bc=some true):nN c1=some true:=by
 have hl2:∀ (l:List Str),l.length≤(l.map fun z:Str=>z.length + 1).sum:=fun l=>by
  induction l with
  | nil=>simp
  | cons x l ih=>simp only [List.map_cons,List.sum_cons,List.length_cons] at ih ⊢; omega
 unfold bF.bulk at h; have h1:=hl2 c1.restore; have h2:=hl2 c1.files; obtain ⟨b,hb⟩:=Zj c1 (by omega) (by omega); obtain ⟨e,e1,e2⟩:=Wt c1 (by omega) (by omega) (hsrc _) (fun s _=>hsrc s); unfold nN; rw [hb]; cases b <;> simp [e1,e2,haw]
end Go.Ft
namespace Go.Ft
open Go
attribute [local congr] iH
theorem ZF :Bc=some true:=by kernel_rfl
theorem Qj (s:Str):∃ e,jv s=some e∧oo s=some e:=by
 unfold jv oo; split
 · exact ⟨_,rfl,rfl⟩
 ·
  obtain ⟨l,a,c,h1,h2,_⟩:=parts_eq s; rw [h1,h2]; exact ⟨_,rfl,rfl⟩
theorem Ga (c1:bF) (h:bF.bulk c1≤1048576):nN c1=some true:=UO c1 h Qj ZF
end Go.Ft
