/- Proved here: plain facts on the functional texts. -/
import Derived.Test.YtpbjbkhfpjckoaaGreatDoorIpPlain1
set_option linter.unusedVariables false
set_option linter.unusedSimpArgs false
set_option linter.unusedSectionVars false
set_option maxHeartbeats 2000000
namespace Go.Ft
open Go
attribute [local congr] jQ
theorem acC {s:Str} (hs:s.length≤2147483648) {i:Nat} (h:i < s.length):rZ s (i:Int)=
  some (if opn (s.drop i)=0 then (⟨0,[],0⟩,0,5) else (⟨4,(s.drop i).take (opn (s.drop i)),i⟩,((i + opn (s.drop i):Nat):Int),0)):=by
 unfold rZ; obtain ⟨m,hm⟩:∃ m,BIG=m + 3:=⟨BIG - 3,rfl⟩; rw [hm,Ml,Ml,Ml]; have e0:idx ([2,1]:List Int) 0=some 2:=rfl; have e1:idx ([2,1]:List Int) 1=some 1:=rfl; have el:(([2,1]:List Int).length:Int)=2:=rfl; rw [el]; by_cases h2:i + 1 < s.length
 ·
  rw [getD_drop h,getD_drop h2]; simp (disch:=omega) only [e0,e1,bB,bD,bX,bq,bE,if_pos,if_neg,au,aC,aB,aF,aH,aK,aJ,aI,decide_eq_true_eq,beq_iff_eq,bne_iff_ne,ne_eq,Bool.and_eq_true,Bool.or_eq_true,Bool.not_eq_true',Bool.not_eq_true,decide_eq_false_iff_not,beq_eq_false_iff_ne,bne_eq_false_iff_eq,Int.toNat_add,Int.toNat_natCast,Int.reduceToNat,Int.zero_add,Int.add_zero,Nat.add_zero,Nat.zero_add,Bool.true_and,Bool.and_true,Bool.false_and,Bool.and_false,Bool.true_or,Bool.or_true,Bool.false_or,Bool.or_false,Bool.not_true,Bool.not_false,Bool.false_eq_true,Bool.true_eq_false,reduceCtorEq,not_true_eq_false,not_false_eq_true,if_true,if_false,decide_true,decide_false]; rw [Lm h2]; unfold opn; cases h3:Ad [s.getD i 0,s.getD (i + 1) 0] with
  | true=>simp (disch:=omega) only [h3,bB,bD,bX,bq,bE,if_pos,if_neg,au,aC,aB,aF,aH,aK,aJ,aI,decide_eq_true_eq,beq_iff_eq,bne_iff_ne,ne_eq,Bool.and_eq_true,Bool.or_eq_true,Bool.not_eq_true',Bool.not_eq_true,decide_eq_false_iff_not,beq_eq_false_iff_ne,bne_eq_false_iff_eq,Int.toNat_add,Int.toNat_natCast,Int.reduceToNat,Int.zero_add,Int.add_zero,Nat.add_zero,Nat.zero_add,Bool.true_and,Bool.and_true,Bool.false_and,Bool.and_false,Bool.true_or,Bool.or_true,Bool.false_or,Bool.or_false,Bool.not_true,Bool.not_false,Bool.false_eq_true,Bool.true_eq_false,reduceCtorEq,not_true_eq_false,not_false_eq_true,if_true,if_false,decide_true,decide_false]; rfl
  | false=>
   simp (disch:=omega) only [h3,bB,bD,bX,bq,bE,if_pos,if_neg,au,aC,aB,aF,aH,aK,aJ,aI,decide_eq_true_eq,beq_iff_eq,bne_iff_ne,ne_eq,Bool.and_eq_true,Bool.or_eq_true,Bool.not_eq_true',Bool.not_eq_true,decide_eq_false_iff_not,beq_eq_false_iff_ne,bne_eq_false_iff_eq,Int.toNat_add,Int.toNat_natCast,Int.reduceToNat,Int.zero_add,Int.add_zero,Nat.add_zero,Nat.zero_add,Bool.true_and,Bool.and_true,Bool.false_and,Bool.and_false,Bool.true_or,Bool.or_true,Bool.false_or,Bool.or_false,Bool.not_true,Bool.not_false,Bool.false_eq_true,Bool.true_eq_false,reduceCtorEq,not_true_eq_false,not_false_eq_true,if_true,if_false,decide_true,decide_false]; rw [Lp h]; cases h4:Ad [s.getD i 0] with
   | true=>simp (disch:=omega) only [h3,h4,bB,bD,bX,bq,bE,if_pos,if_neg,au,aC,aB,aF,aH,aK,aJ,aI,decide_eq_true_eq,beq_iff_eq,bne_iff_ne,ne_eq,Bool.and_eq_true,Bool.or_eq_true,Bool.not_eq_true',Bool.not_eq_true,decide_eq_false_iff_not,beq_eq_false_iff_ne,bne_eq_false_iff_eq,Int.toNat_add,Int.toNat_natCast,Int.reduceToNat,Int.zero_add,Int.add_zero,Nat.add_zero,Nat.zero_add,Bool.true_and,Bool.and_true,Bool.false_and,Bool.and_false,Bool.true_or,Bool.or_true,Bool.false_or,Bool.or_false,Bool.not_true,Bool.not_false,Bool.false_eq_true,Bool.true_eq_false,reduceCtorEq,not_true_eq_false,not_false_eq_true,if_true,if_false,decide_true,decide_false]; rfl
   | false=>simp (disch:=omega) only [h3,h4,bB,bD,bX,bq,bE,if_pos,if_neg,au,aC,aB,aF,aH,aK,aJ,aI,decide_eq_true_eq,beq_iff_eq,bne_iff_ne,ne_eq,Bool.and_eq_true,Bool.or_eq_true,Bool.not_eq_true',Bool.not_eq_true,decide_eq_false_iff_not,beq_eq_false_iff_ne,bne_eq_false_iff_eq,Int.toNat_add,Int.toNat_natCast,Int.reduceToNat,Int.zero_add,Int.add_zero,Nat.add_zero,Nat.zero_add,Bool.true_and,Bool.and_true,Bool.false_and,Bool.and_false,Bool.true_or,Bool.or_true,Bool.false_or,Bool.or_false,Bool.not_true,Bool.not_false,Bool.false_eq_true,Bool.true_eq_false,reduceCtorEq,not_true_eq_false,not_false_eq_true,if_true,if_false,decide_true,decide_false]
 ·
  rw [getD_drop h,List.drop_eq_nil_of_le (by omega:s.length≤i + 1)]; simp (disch:=omega) only [e0,e1,bB,bD,bX,bq,bE,if_pos,if_neg,au,aC,aB,aF,aH,aK,aJ,aI,decide_eq_true_eq,beq_iff_eq,bne_iff_ne,ne_eq,Bool.and_eq_true,Bool.or_eq_true,Bool.not_eq_true',Bool.not_eq_true,decide_eq_false_iff_not,beq_eq_false_iff_ne,bne_eq_false_iff_eq,Int.toNat_add,Int.toNat_natCast,Int.reduceToNat,Int.zero_add,Int.add_zero,Nat.add_zero,Nat.zero_add,Bool.true_and,Bool.and_true,Bool.false_and,Bool.and_false,Bool.true_or,Bool.or_true,Bool.false_or,Bool.or_false,Bool.not_true,Bool.not_false,Bool.false_eq_true,Bool.true_eq_false,reduceCtorEq,not_true_eq_false,not_false_eq_true,if_true,if_false,decide_true,decide_false]; rw [Lp h]; unfold opn; cases h4:Ad [s.getD i 0] with
  | true=>simp (disch:=omega) only [h4,bB,bD,bX,bq,bE,if_pos,if_neg,au,aC,aB,aF,aH,aK,aJ,aI,decide_eq_true_eq,beq_iff_eq,bne_iff_ne,ne_eq,Bool.and_eq_true,Bool.or_eq_true,Bool.not_eq_true',Bool.not_eq_true,decide_eq_false_iff_not,beq_eq_false_iff_ne,bne_eq_false_iff_eq,Int.toNat_add,Int.toNat_natCast,Int.reduceToNat,Int.zero_add,Int.add_zero,Nat.add_zero,Nat.zero_add,Bool.true_and,Bool.and_true,Bool.false_and,Bool.and_false,Bool.true_or,Bool.or_true,Bool.false_or,Bool.or_false,Bool.not_true,Bool.not_false,Bool.false_eq_true,Bool.true_eq_false,reduceCtorEq,not_true_eq_false,not_false_eq_true,if_true,if_false,decide_true,decide_false]; rfl
  | false=>simp (disch:=omega) only [h4,bB,bD,bX,bq,bE,if_pos,if_neg,au,aC,aB,aF,aH,aK,aJ,aI,decide_eq_true_eq,beq_iff_eq,bne_iff_ne,ne_eq,Bool.and_eq_true,Bool.or_eq_true,Bool.not_eq_true',Bool.not_eq_true,decide_eq_false_iff_not,beq_eq_false_iff_ne,bne_eq_false_iff_eq,Int.toNat_add,Int.toNat_natCast,Int.reduceToNat,Int.zero_add,Int.add_zero,Nat.add_zero,Nat.zero_add,Bool.true_and,Bool.and_true,Bool.false_and,Bool.and_false,Bool.true_or,Bool.or_true,Bool.false_or,Bool.or_false,Bool.not_true,Bool.not_false,Bool.false_eq_true,Bool.true_eq_false,reduceCtorEq,not_true_eq_false,not_false_eq_true,if_true,if_false,decide_true,decide_false]
theorem adB (s:Str) (a:Int):∀ k:Nat,gQ s a (k + 20) 0=ay (idx s a) fun c=>if Ad [c] then some 1 else some 0:=by
 intro k; have d0:idx ([60,62,43,45,42,47,37,33,63,58,46,44,61,40,41,91,93,123,125]:Str) 0=some 60:=rfl; have d1:idx ([60,62,43,45,42,47,37,33,63,58,46,44,61,40,41,91,93,123,125]:Str) 1=some 62:=rfl; have d2:idx ([60,62,43,45,42,47,37,33,63,58,46,44,61,40,41,91,93,123,125]:Str) 2=some 43:=rfl; have d3:idx ([60,62,43,45,42,47,37,33,63,58,46,44,61,40,41,91,93,123,125]:Str) 3=some 45:=rfl; have d4:idx ([60,62,43,45,42,47,37,33,63,58,46,44,61,40,41,91,93,123,125]:Str) 4=some 42:=rfl; have d5:idx ([60,62,43,45,42,47,37,33,63,58,46,44,61,40,41,91,93,123,125]:Str) 5=some 47:=rfl; have d6:idx ([60,62,43,45,42,47,37,33,63,58,46,44,61,40,41,91,93,123,125]:Str) 6=some 37:=rfl; have d7:idx ([60,62,43,45,42,47,37,33,63,58,46,44,61,40,41,91,93,123,125]:Str) 7=some 33:=rfl; have d8:idx ([60,62,43,45,42,47,37,33,63,58,46,44,61,40,41,91,93,123,125]:Str) 8=some 63:=rfl; have d9:idx ([60,62,43,45,42,47,37,33,63,58,46,44,61,40,41,91,93,123,125]:Str) 9=some 58:=rfl; have d10:idx ([60,62,43,45,42,47,37,33,63,58,46,44,61,40,41,91,93,123,125]:Str) 10=some 46:=rfl; have d11:idx ([60,62,43,45,42,47,37,33,63,58,46,44,61,40,41,91,93,123,125]:Str) 11=some 44:=rfl; have d12:idx ([60,62,43,45,42,47,37,33,63,58,46,44,61,40,41,91,93,123,125]:Str) 12=some 61:=rfl; have d13:idx ([60,62,43,45,42,47,37,33,63,58,46,44,61,40,41,91,93,123,125]:Str) 13=some 40:=rfl; have d14:idx ([60,62,43,45,42,47,37,33,63,58,46,44,61,40,41,91,93,123,125]:Str) 14=some 41:=rfl; have d15:idx ([60,62,43,45,42,47,37,33,63,58,46,44,61,40,41,91,93,123,125]:Str) 15=some 91:=rfl
 have d16:idx ([60,62,43,45,42,47,37,33,63,58,46,44,61,40,41,91,93,123,125]:Str) 16=some 93:=rfl; have d17:idx ([60,62,43,45,42,47,37,33,63,58,46,44,61,40,41,91,93,123,125]:Str) 17=some 123:=rfl; have d18:idx ([60,62,43,45,42,47,37,33,63,58,46,44,61,40,41,91,93,123,125]:Str) 18=some 125:=rfl; cases hc:idx s a with
 | none=>rw [gQ]; simp [hc]
 | some c=>
  have f:∀ n:Nat,((c.toNat:Int) == ((UInt8.ofNat n).toNat:Int))=(c == UInt8.ofNat n):=by
   intro n; by_cases h:c=UInt8.ofNat n
   · subst h; simp
   ·
    have h':¬ c.toNat=(UInt8.ofNat n).toNat:=fun h2=>h (UInt8.toNat_inj.1 h2); have h3:¬ ((c.toNat:Int)=((UInt8.ofNat n).toNat:Int)):=by omega
    simp only [beq_eq_false_iff_ne.2 h,beq_eq_false_iff_ne.2 h3]
  have g:∀ i:Int,0≤i→i < 19→∀ m:Nat,∀ d:UInt8,idx ([60,62,43,45,42,47,37,33,63,58,46,44,61,40,41,91,93,123,125]:Str) i=some d→gQ s a (m + 1) i=if c == d then some 1 else gQ s a m (i + 1):=by
   intro i h0 h1 m d hd; rw [gQ]; simp (disch:=omega) only [hc,hd,bB,bD,bX,bq,bE,if_pos,if_neg,au,aC,aB,aF,aH,aK,aJ,aI,decide_eq_true_eq,beq_iff_eq,bne_iff_ne,ne_eq,Bool.and_eq_true,Bool.or_eq_true,Bool.not_eq_true',Bool.not_eq_true,decide_eq_false_iff_not,beq_eq_false_iff_ne,bne_eq_false_iff_eq,Int.toNat_add,Int.toNat_natCast,Int.reduceToNat,Int.zero_add,Int.add_zero,Nat.add_zero,Nat.zero_add,Bool.true_and,Bool.and_true,Bool.false_and,Bool.and_false,Bool.true_or,Bool.or_true,Bool.false_or,Bool.or_false,Bool.not_true,Bool.not_false,Bool.false_eq_true,Bool.true_eq_false,reduceCtorEq,not_true_eq_false,not_false_eq_true,if_true,if_false,decide_true,decide_false]; have:=f d.toNat; rw [UInt8.ofNat_toNat] at this; by_cases h:c=d
   · subst h; simp
   ·
    have h':¬ (c.toNat:Int)=(d.toNat:Int):=fun h2=>h (UInt8.toNat_inj.1 (by omega)); simp [h,h']
  have z:∀ m:Nat,gQ s a (m + 1) 19=some 0:=by intro m; rw [gQ]; simp
  simp only [au]; rw [g 0 (by omega) (by omega) (k + 19) 60 d0]; simp only [Int.reduceAdd]; rw [g 1 (by omega) (by omega) (k + 18) 62 d1]; simp only [Int.reduceAdd]; rw [g 2 (by omega) (by omega) (k + 17) 43 d2]; simp only [Int.reduceAdd]; rw [g 3 (by omega) (by omega) (k + 16) 45 d3]; simp only [Int.reduceAdd]; rw [g 4 (by omega) (by omega) (k + 15) 42 d4]; simp only [Int.reduceAdd]; rw [g 5 (by omega) (by omega) (k + 14) 47 d5]; simp only [Int.reduceAdd]; rw [g 6 (by omega) (by omega) (k + 13) 37 d6]; simp only [Int.reduceAdd]; rw [g 7 (by omega) (by omega) (k + 12) 33 d7]; simp only [Int.reduceAdd]; rw [g 8 (by omega) (by omega) (k + 11) 63 d8]; simp only [Int.reduceAdd]; rw [g 9 (by omega) (by omega) (k + 10) 58 d9]; simp only [Int.reduceAdd]; rw [g 10 (by omega) (by omega) (k + 9) 46 d10]; simp only [Int.reduceAdd]; rw [g 11 (by omega) (by omega) (k + 8) 44 d11]; simp only [Int.reduceAdd]; rw [g 12 (by omega) (by omega) (k + 7) 61 d12]; simp only [Int.reduceAdd]; rw [g 13 (by omega) (by omega) (k + 6) 40 d13]; simp only [Int.reduceAdd]; rw [g 14 (by omega) (by omega) (k + 5) 41 d14]; simp only [Int.reduceAdd]; rw [g 15 (by omega) (by omega) (k + 4) 91 d15]; simp only [Int.reduceAdd]; rw [g 16 (by omega) (by omega) (k + 3) 93 d16]; simp only [Int.reduceAdd]; rw [g 17 (by omega) (by omega) (k + 2) 123 d17]; simp only [Int.reduceAdd]; rw [g 18 (by omega) (by omega) (k + 1) 125 d18]; simp only [Int.reduceAdd]; rw [z]
  have key:Ad [c]=((c == 60) || ((c == 62) || ((c == 43) || ((c == 45) || ((c == 42) || ((c == 47) || ((c == 37) || ((c == 33) || ((c == 63) || ((c == 58) || ((c == 46) || ((c == 44) || ((c == 61) || ((c == 40) || ((c == 41) || ((c == 91) || ((c == 93) || ((c == 123) || (c == 125))))))))))))))))))):=by
   simp [Ad,List.cons_beq_cons]
  rw [key]; simp only [Ut]
theorem ae0 (s:Str) (a:Int) (k:Nat) (b:Str) (hb:sl s a (bV (a + 2))=some b) (hl:b.length=2) (h0:bV (a + 2)≤s.length):
  gu s a (k + 7) 0=if Ad b then some 2 else gQ s a BIG 0:=by
 have g:∀ i:Int,0≤i→i < 12→∀ m:Nat,∀ d:Str,sl ([124,124,38,38,61,61,33,61,60,61,62,61]:Str) i (i + 2)=some d→gu s a (m + 1) i=if b == d then some 2 else gu s a m (i + 2):=by
  intro i h1 h2 m d hd; rw [gu]; simp only [h0,decide_true,if_true,hb,au]; rw [bB (by omega) (by omega),hd]; have h3:decide (i < 12)=true:=by simpa using h2
  simp only [h3,if_true,au]
 have z:∀ m:Nat,gu s a (m + 1) 12=gQ s a BIG 0:=by intro m; rw [gu]; simp
 rw [g 0 (by omega) (by omega) (k + 6) [124,124] rfl,g _ (by omega) (by omega) (k + 5) [38,38] rfl,g _ (by omega) (by omega) (k + 4) [61,61] rfl,g _ (by omega) (by omega) (k + 3) [33,61] rfl,g _ (by omega) (by omega) (k + 2) [60,61] rfl,g _ (by omega) (by omega) (k + 1) [62,61] rfl]; rw [show (0:Int) + 2 + 2 + 2 + 2 + 2 + 2=12 from rfl,z]
 have key:Ad b=((b == [124,124]) || ((b == [38,38]) || ((b == [61,61]) || ((b == [33,61]) || ((b == [60,61]) || (b == [62,61])))))):=by
  match b,hl with
  | [x,y],_=>simp [Ad]
 rw [key]; simp only [Ut]
theorem abG {s:Str} (hs:s.length≤2147483648) {i:Nat} (h:i < s.length):vO s (i:Int)=some ((opn (s.drop i):Nat):Int):=by
 unfold vO; obtain ⟨m,hm⟩:∃ m,BIG=m + 20:=⟨BIG - 20,rfl⟩; have hc:idx s (i:Int)=some (s.getD i 0):=by simp (disch:=omega) only [dflt,bB,bD,bX,bq,bE,if_pos,if_neg,au,aC,aB,aF,aH,aK,aJ,aI,decide_eq_true_eq,beq_iff_eq,bne_iff_ne,ne_eq,Bool.and_eq_true,Bool.or_eq_true,Bool.not_eq_true',Bool.not_eq_true,decide_eq_false_iff_not,beq_eq_false_iff_ne,bne_eq_false_iff_eq,Int.toNat_add,Int.toNat_natCast,Int.reduceToNat,Int.zero_add,Int.add_zero,Nat.add_zero,Nat.zero_add,Bool.true_and,Bool.and_true,Bool.false_and,Bool.and_false,Bool.true_or,Bool.or_true,Bool.false_or,Bool.or_false,Bool.not_true,Bool.not_false,Bool.false_eq_true,Bool.true_eq_false,reduceCtorEq,not_true_eq_false,not_false_eq_true,if_true,if_false,decide_true,decide_false]
 by_cases h2:i + 1 < s.length
 ·
  have hb:sl s (i:Int) (bV ((i:Int) + 2))=some [s.getD i 0,s.getD (i + 1) 0]:=by
   simp (disch:=omega) only [bB,bD,bX,bq,bE,if_pos,if_neg,au,aC,aB,aF,aH,aK,aJ,aI,decide_eq_true_eq,beq_iff_eq,bne_iff_ne,ne_eq,Bool.and_eq_true,Bool.or_eq_true,Bool.not_eq_true',Bool.not_eq_true,decide_eq_false_iff_not,beq_eq_false_iff_ne,bne_eq_false_iff_eq,Int.toNat_add,Int.toNat_natCast,Int.reduceToNat,Int.zero_add,Int.add_zero,Nat.add_zero,Nat.zero_add,Bool.true_and,Bool.and_true,Bool.false_and,Bool.and_false,Bool.true_or,Bool.or_true,Bool.false_or,Bool.or_false,Bool.not_true,Bool.not_false,Bool.false_eq_true,Bool.true_eq_false,reduceCtorEq,not_true_eq_false,not_false_eq_true,if_true,if_false,decide_true,decide_false]; rw [Lm h2]
  rw [hm,show m + 20=(m + 13) + 7 from rfl,ae0 s _ _ _ hb rfl (by rw [bB (by omega) (by omega)]; omega),hm,adB,hc]; rw [getD_drop h,getD_drop h2]; unfold opn; cases h3:Ad [s.getD i 0,s.getD (i + 1) 0] with
  | true=>simp (disch:=omega) only [h3,bB,bD,bX,bq,bE,if_pos,if_neg,au,aC,aB,aF,aH,aK,aJ,aI,decide_eq_true_eq,beq_iff_eq,bne_iff_ne,ne_eq,Bool.and_eq_true,Bool.or_eq_true,Bool.not_eq_true',Bool.not_eq_true,decide_eq_false_iff_not,beq_eq_false_iff_ne,bne_eq_false_iff_eq,Int.toNat_add,Int.toNat_natCast,Int.reduceToNat,Int.zero_add,Int.add_zero,Nat.add_zero,Nat.zero_add,Bool.true_and,Bool.and_true,Bool.false_and,Bool.and_false,Bool.true_or,Bool.or_true,Bool.false_or,Bool.or_false,Bool.not_true,Bool.not_false,Bool.false_eq_true,Bool.true_eq_false,reduceCtorEq,not_true_eq_false,not_false_eq_true,if_true,if_false,decide_true,decide_false]; rfl
  | false=>
   simp (disch:=omega) only [h3,bB,bD,bX,bq,bE,if_pos,if_neg,au,aC,aB,aF,aH,aK,aJ,aI,decide_eq_true_eq,beq_iff_eq,bne_iff_ne,ne_eq,Bool.and_eq_true,Bool.or_eq_true,Bool.not_eq_true',Bool.not_eq_true,decide_eq_false_iff_not,beq_eq_false_iff_ne,bne_eq_false_iff_eq,Int.toNat_add,Int.toNat_natCast,Int.reduceToNat,Int.zero_add,Int.add_zero,Nat.add_zero,Nat.zero_add,Bool.true_and,Bool.and_true,Bool.false_and,Bool.and_false,Bool.true_or,Bool.or_true,Bool.false_or,Bool.or_false,Bool.not_true,Bool.not_false,Bool.false_eq_true,Bool.true_eq_false,reduceCtorEq,not_true_eq_false,not_false_eq_true,if_true,if_false,decide_true,decide_false]; cases h4:Ad [s.getD i 0] with
   | true=>simp (disch:=omega) only [h3,h4,bB,bD,bX,bq,bE,if_pos,if_neg,au,aC,aB,aF,aH,aK,aJ,aI,decide_eq_true_eq,beq_iff_eq,bne_iff_ne,ne_eq,Bool.and_eq_true,Bool.or_eq_true,Bool.not_eq_true',Bool.not_eq_true,decide_eq_false_iff_not,beq_eq_false_iff_ne,bne_eq_false_iff_eq,Int.toNat_add,Int.toNat_natCast,Int.reduceToNat,Int.zero_add,Int.add_zero,Nat.add_zero,Nat.zero_add,Bool.true_and,Bool.and_true,Bool.false_and,Bool.and_false,Bool.true_or,Bool.or_true,Bool.false_or,Bool.or_false,Bool.not_true,Bool.not_false,Bool.false_eq_true,Bool.true_eq_false,reduceCtorEq,not_true_eq_false,not_false_eq_true,if_true,if_false,decide_true,decide_false]; rfl
   | false=>simp (disch:=omega) only [h3,h4,bB,bD,bX,bq,bE,if_pos,if_neg,au,aC,aB,aF,aH,aK,aJ,aI,decide_eq_true_eq,beq_iff_eq,bne_iff_ne,ne_eq,Bool.and_eq_true,Bool.or_eq_true,Bool.not_eq_true',Bool.not_eq_true,decide_eq_false_iff_not,beq_eq_false_iff_ne,bne_eq_false_iff_eq,Int.toNat_add,Int.toNat_natCast,Int.reduceToNat,Int.zero_add,Int.add_zero,Nat.add_zero,Nat.zero_add,Bool.true_and,Bool.and_true,Bool.false_and,Bool.and_false,Bool.true_or,Bool.or_true,Bool.false_or,Bool.or_false,Bool.not_true,Bool.not_false,Bool.false_eq_true,Bool.true_eq_false,reduceCtorEq,not_true_eq_false,not_false_eq_true,if_true,if_false,decide_true,decide_false]; rfl
 ·
  have g:∀ m:Nat,∀ j:Int,0≤j→j < 12→gu s (i:Int) (m + 1) j=gu s (i:Int) m (j + 2):=by
   intro m j h0 h1; rw [gu]; simp (disch:=omega) only [bB,bD,bX,bq,bE,if_pos,if_neg,au,aC,aB,aF,aH,aK,aJ,aI,decide_eq_true_eq,beq_iff_eq,bne_iff_ne,ne_eq,Bool.and_eq_true,Bool.or_eq_true,Bool.not_eq_true',Bool.not_eq_true,decide_eq_false_iff_not,beq_eq_false_iff_ne,bne_eq_false_iff_eq,Int.toNat_add,Int.toNat_natCast,Int.reduceToNat,Int.zero_add,Int.add_zero,Nat.add_zero,Nat.zero_add,Bool.true_and,Bool.and_true,Bool.false_and,Bool.and_false,Bool.true_or,Bool.or_true,Bool.false_or,Bool.or_false,Bool.not_true,Bool.not_false,Bool.false_eq_true,Bool.true_eq_false,reduceCtorEq,not_true_eq_false,not_false_eq_true,if_true,if_false,decide_true,decide_false]
  have z:∀ m:Nat,gu s (i:Int) (m + 1) 12=gQ s (i:Int) BIG 0:=by intro m; rw [gu]; simp
  rw [hm,show m + 20=(m + 13 + 1 + 6) from rfl,g _ _ (by omega) (by omega),g _ _ (by omega) (by omega),g _ _ (by omega) (by omega),g _ _ (by omega) (by omega),g _ _ (by omega) (by omega),g _ _ (by omega) (by omega)]; rw [show (0:Int) + 2 + 2 + 2 + 2 + 2 + 2=12 from rfl,z,hm,adB,hc]; rw [getD_drop h,List.drop_eq_nil_of_le (by omega:s.length≤i + 1)]; unfold opn; cases h4:Ad [s.getD i 0] with
  | true=>simp (disch:=omega) only [h4,bB,bD,bX,bq,bE,if_pos,if_neg,au,aC,aB,aF,aH,aK,aJ,aI,decide_eq_true_eq,beq_iff_eq,bne_iff_ne,ne_eq,Bool.and_eq_true,Bool.or_eq_true,Bool.not_eq_true',Bool.not_eq_true,decide_eq_false_iff_not,beq_eq_false_iff_ne,bne_eq_false_iff_eq,Int.toNat_add,Int.toNat_natCast,Int.reduceToNat,Int.zero_add,Int.add_zero,Nat.add_zero,Nat.zero_add,Bool.true_and,Bool.and_true,Bool.false_and,Bool.and_false,Bool.true_or,Bool.or_true,Bool.false_or,Bool.or_false,Bool.not_true,Bool.not_false,Bool.false_eq_true,Bool.true_eq_false,reduceCtorEq,not_true_eq_false,not_false_eq_true,if_true,if_false,decide_true,decide_false]; rfl
  | false=>simp (disch:=omega) only [h4,bB,bD,bX,bq,bE,if_pos,if_neg,au,aC,aB,aF,aH,aK,aJ,aI,decide_eq_true_eq,beq_iff_eq,bne_iff_ne,ne_eq,Bool.and_eq_true,Bool.or_eq_true,Bool.not_eq_true',Bool.not_eq_true,decide_eq_false_iff_not,beq_eq_false_iff_ne,bne_eq_false_iff_eq,Int.toNat_add,Int.toNat_natCast,Int.reduceToNat,Int.zero_add,Int.add_zero,Nat.add_zero,Nat.zero_add,Bool.true_and,Bool.and_true,Bool.false_and,Bool.and_false,Bool.true_or,Bool.or_true,Bool.false_or,Bool.or_false,Bool.not_true,Bool.not_false,Bool.false_eq_true,Bool.true_eq_false,reduceCtorEq,not_true_eq_false,not_false_eq_true,if_true,if_false,decide_true,decide_false]; rfl
theorem Qb (l:Str):span isDigit l < span isWord l↔∃ c,l[span isDigit l]?=some c∧nG c=true:=by
 induction l with
 | nil=>simp
 | cons c l ih=>
  rw [kX,kX]; cases h:isDigit c with
  | false=>cases h2:nG c <;> simp [isWord,h,h2]
  | true=>simp [isWord,h,ih]
theorem IW (p:UInt8→Bool) (l:Str):∀ c∈l.take (span p l),p c=true:=by
 induction l with
 | nil=>simp
 | cons c l ih=>
  rw [kX]; split
  ·
   rename_i h; intro x hx; simp only [List.take_succ_cons,List.mem_cons] at hx; rcases hx with rfl | hx
   · exact h
   · exact ih x hx
  · simp
def ni :Str→Int × Str × Nat × Int
 | []=>(0,[],0,5)
 | c :: r=>
  if isDigit c then
   let n:=span isDigit (c :: r)
   if (1 < n∧c.toNat=48)∨n < span isWord (c :: r) then (0,[],0,5)
   else if Bt < val ((c :: r).take n) then (0,[],0,2) else (2,(c :: r).take n,n,0)
  else if c.toNat=34 then
   let x:=txt 0 [] 1 r
   if x.2.2=0 then (3,x.1,x.2.1,0) else (0,[],0,x.2.2)
  else if nG c then
   let n:=span isWord (c :: r)
   if 64 < n then (0,[],0,3) else (1,(c :: r).take n,n,0)
  else
   let n:=opn (c :: r)
   if n=0 then (0,[],0,5) else (4,(c :: r).take n,n,0)
def ltk (a:Nat) (x:Int × Str × Nat × Int):av × Int × Int:=if x.2.2.2=0 then (⟨x.1,x.2.1,a⟩,((a + x.2.2.1:Nat):Int),0) else (⟨0,[],0⟩,0,x.2.2.2)
def rtk (x:Int × Str × Nat × Int):av × Int × Int:=if x.2.2.2=0 then (⟨x.1,x.2.1,0⟩,(x.2.2.1:Int),0) else (⟨0,[],0⟩,0,x.2.2.2)
end Go.Ft
namespace Go.Ft
open Go
attribute [local congr] jQ
theorem pQ (s:Str) (i:Nat):(s.drop i).length=s.length - i:=List.length_drop
theorem u_ (s:Str) (i n:Nat):(s.take (i + n)).drop i=(s.drop i).take n:=by
 rw [List.drop_take,Nat.add_sub_cancel_left]
theorem Pq {s:Str} {i n:Nat} (c:UInt8):(s.drop i)[n]?=some c↔s[i + n]?=some c:=by rw [List.getElem?_drop]
theorem YL {s:Str} (hs:s.length≤2147483648) {i:Nat} (h:i < s.length):zO s (i:Int)=
  some (ltk i (if 64 < span isWord (s.drop i) then (0,[],0,3) else (1,(s.drop i).take (span isWord (s.drop i)),span isWord (s.drop i),0))):=by
 have hle:=yH isWord (s.drop i); rw [pQ] at hle; unfold zO; rw [K9 YH (by omega) (by omega)]; generalize span isWord (s.drop i)=n at hle ⊢; simp (disch:=omega) only [bB,bD,bX,bq,bE,if_pos,if_neg,au,aC,aB,aF,aH,aK,aJ,aI,decide_eq_true_eq,beq_iff_eq,bne_iff_ne,ne_eq,Bool.and_eq_true,Bool.or_eq_true,Bool.not_eq_true',Bool.not_eq_true,decide_eq_false_iff_not,beq_eq_false_iff_ne,bne_eq_false_iff_eq,Int.toNat_add,Int.toNat_natCast,Int.reduceToNat,Int.zero_add,Int.add_zero,Nat.add_zero,Nat.zero_add,Bool.true_and,Bool.and_true,Bool.false_and,Bool.and_false,Bool.true_or,Bool.or_true,Bool.false_or,Bool.or_false,Bool.not_true,Bool.not_false,Bool.false_eq_true,Bool.true_eq_false,reduceCtorEq,not_true_eq_false,not_false_eq_true,if_true,if_false,decide_true,decide_false]; by_cases h1:64 < n
 · simp (disch:=omega) only [bB,bD,bX,bq,bE,if_pos,if_neg,au,aC,aB,aF,aH,aK,aJ,aI,decide_eq_true_eq,beq_iff_eq,bne_iff_ne,ne_eq,Bool.and_eq_true,Bool.or_eq_true,Bool.not_eq_true',Bool.not_eq_true,decide_eq_false_iff_not,beq_eq_false_iff_ne,bne_eq_false_iff_eq,Int.toNat_add,Int.toNat_natCast,Int.reduceToNat,Int.zero_add,Int.add_zero,Nat.add_zero,Nat.zero_add,Bool.true_and,Bool.and_true,Bool.false_and,Bool.and_false,Bool.true_or,Bool.or_true,Bool.false_or,Bool.or_false,Bool.not_true,Bool.not_false,Bool.false_eq_true,Bool.true_eq_false,reduceCtorEq,not_true_eq_false,not_false_eq_true,if_true,if_false,decide_true,decide_false]; rfl
 ·
  simp (disch:=omega) only [bB,bD,bX,bq,bE,if_pos,if_neg,au,aC,aB,aF,aH,aK,aJ,aI,decide_eq_true_eq,beq_iff_eq,bne_iff_ne,ne_eq,Bool.and_eq_true,Bool.or_eq_true,Bool.not_eq_true',Bool.not_eq_true,decide_eq_false_iff_not,beq_eq_false_iff_ne,bne_eq_false_iff_eq,Int.toNat_add,Int.toNat_natCast,Int.reduceToNat,Int.zero_add,Int.add_zero,Nat.add_zero,Nat.zero_add,Bool.true_and,Bool.and_true,Bool.false_and,Bool.and_false,Bool.true_or,Bool.or_true,Bool.false_or,Bool.or_false,Bool.not_true,Bool.not_false,Bool.false_eq_true,Bool.true_eq_false,reduceCtorEq,not_true_eq_false,not_false_eq_true,if_true,if_false,decide_true,decide_false]; rw [u_]; rfl
theorem UC {s:Str} (hs:s.length≤2147483648) {i:Nat} (h:i < s.length) (hd:isDigit (s.getD i 0)=true):wh s (i:Int)=some (ltk i (ni (s.drop i))):=by
 have hle:=yH isDigit (s.drop i); rw [pQ] at hle; have hlt:=Qb (s.drop i); have htk:=IW isDigit (s.drop i); have hpos:0 < span isDigit (s.drop i):=by rw [getD_drop h,kX,hd]; simp
 have hh:(s.drop i)=s.getD i 0 :: s.drop (i + 1):=getD_drop h
 have ht:ni (s.drop i)=if (1 < span isDigit (s.drop i)∧(s.getD i 0).toNat=48)∨span isDigit (s.drop i) < span isWord (s.drop i) then (0,[],0,5)
   else if Bt < val ((s.drop i).take (span isDigit (s.drop i))) then (0,[],0,2) else (2,(s.drop i).take (span isDigit (s.drop i)),span isDigit (s.drop i),0):=by
  rw [hh]; simp only [ni,hd,if_true]
 rw [ht]; unfold wh; rw [K9 digit_eq (by omega) (by omega)]; generalize span isDigit (s.drop i)=n at hle hlt htk hpos ⊢; generalize span isWord (s.drop i)=m at hlt ⊢
 have e1:sl s (i:Int) ((i + n:Nat):Int)=some ((s.drop i).take n):=by
  simp (disch:=omega) only [bB,bD,bX,bq,bE,if_pos,if_neg,au,aC,aB,aF,aH,aK,aJ,aI,decide_eq_true_eq,beq_iff_eq,bne_iff_ne,ne_eq,Bool.and_eq_true,Bool.or_eq_true,Bool.not_eq_true',Bool.not_eq_true,decide_eq_false_iff_not,beq_eq_false_iff_ne,bne_eq_false_iff_eq,Int.toNat_add,Int.toNat_natCast,Int.reduceToNat,Int.zero_add,Int.add_zero,Nat.add_zero,Nat.zero_add,Bool.true_and,Bool.and_true,Bool.false_and,Bool.and_false,Bool.true_or,Bool.or_true,Bool.false_or,Bool.or_false,Bool.not_true,Bool.not_false,Bool.false_eq_true,Bool.true_eq_false,reduceCtorEq,not_true_eq_false,not_false_eq_true,if_true,if_false,decide_true,decide_false]; rw [u_]
 have e2:((s.drop i).take n).length=n:=by simp; omega
 have e3:((s.drop i).take n).getD 0 0=s.getD i 0:=by
  obtain ⟨k,rfl⟩:∃ k,n=k + 1:=⟨n - 1,by omega⟩; rw [hh]; rfl
 rw [au,e1,au,e2]; by_cases hw:n < m
 ·
  obtain ⟨c,hc,hl⟩:=hlt.1 hw; rw [Pq] at hc; have hlt2:i + n < s.length:=(List.getElem?_eq_some_iff.1 hc).1; have e4:s.getD (i + n) 0=c:=by rw [List.getD_eq_getElem?_getD,hc]; rfl
  rw [if_pos (Or.inr hw)]; by_cases h1:1 < n
  ·
   by_cases h2:(s.getD i 0).toNat=48
   · simp (disch:=omega) only [e2,e3,dflt,bB,bD,bX,bq,bE,if_pos,if_neg,au,aC,aB,aF,aH,aK,aJ,aI,decide_eq_true_eq,beq_iff_eq,bne_iff_ne,ne_eq,Bool.and_eq_true,Bool.or_eq_true,Bool.not_eq_true',Bool.not_eq_true,decide_eq_false_iff_not,beq_eq_false_iff_ne,bne_eq_false_iff_eq,Int.toNat_add,Int.toNat_natCast,Int.reduceToNat,Int.zero_add,Int.add_zero,Nat.add_zero,Nat.zero_add,Bool.true_and,Bool.and_true,Bool.false_and,Bool.and_false,Bool.true_or,Bool.or_true,Bool.false_or,Bool.or_false,Bool.not_true,Bool.not_false,Bool.false_eq_true,Bool.true_eq_false,reduceCtorEq,not_true_eq_false,not_false_eq_true,if_true,if_false,decide_true,decide_false]; rfl
   · simp (disch:=omega) only [e2,e3,dflt,letter_eq,e4,hl,bB,bD,bX,bq,bE,if_pos,if_neg,au,aC,aB,aF,aH,aK,aJ,aI,decide_eq_true_eq,beq_iff_eq,bne_iff_ne,ne_eq,Bool.and_eq_true,Bool.or_eq_true,Bool.not_eq_true',Bool.not_eq_true,decide_eq_false_iff_not,beq_eq_false_iff_ne,bne_eq_false_iff_eq,Int.toNat_add,Int.toNat_natCast,Int.reduceToNat,Int.zero_add,Int.add_zero,Nat.add_zero,Nat.zero_add,Bool.true_and,Bool.and_true,Bool.false_and,Bool.and_false,Bool.true_or,Bool.or_true,Bool.false_or,Bool.or_false,Bool.not_true,Bool.not_false,Bool.false_eq_true,Bool.true_eq_false,reduceCtorEq,not_true_eq_false,not_false_eq_true,if_true,if_false,decide_true,decide_false]; rfl
  · simp (disch:=omega) only [e2,e3,dflt,letter_eq,e4,hl,bB,bD,bX,bq,bE,if_pos,if_neg,au,aC,aB,aF,aH,aK,aJ,aI,decide_eq_true_eq,beq_iff_eq,bne_iff_ne,ne_eq,Bool.and_eq_true,Bool.or_eq_true,Bool.not_eq_true',Bool.not_eq_true,decide_eq_false_iff_not,beq_eq_false_iff_ne,bne_eq_false_iff_eq,Int.toNat_add,Int.toNat_natCast,Int.reduceToNat,Int.zero_add,Int.add_zero,Nat.add_zero,Nat.zero_add,Bool.true_and,Bool.and_true,Bool.false_and,Bool.and_false,Bool.true_or,Bool.or_true,Bool.false_or,Bool.or_false,Bool.not_true,Bool.not_false,Bool.false_eq_true,Bool.true_eq_false,reduceCtorEq,not_true_eq_false,not_false_eq_true,if_true,if_false,decide_true,decide_false]; rfl
 ·
  by_cases hz:1 < n∧(s.getD i 0).toNat=48
  ·
   rw [if_pos (Or.inl hz)]; simp (disch:=omega) only [e2,e3,dflt,bB,bD,bX,bq,bE,if_pos,if_neg,au,aC,aB,aF,aH,aK,aJ,aI,decide_eq_true_eq,beq_iff_eq,bne_iff_ne,ne_eq,Bool.and_eq_true,Bool.or_eq_true,Bool.not_eq_true',Bool.not_eq_true,decide_eq_false_iff_not,beq_eq_false_iff_ne,bne_eq_false_iff_eq,Int.toNat_add,Int.toNat_natCast,Int.reduceToNat,Int.zero_add,Int.add_zero,Nat.add_zero,Nat.zero_add,Bool.true_and,Bool.and_true,Bool.false_and,Bool.and_false,Bool.true_or,Bool.or_true,Bool.false_or,Bool.or_false,Bool.not_true,Bool.not_false,Bool.false_eq_true,Bool.true_eq_false,reduceCtorEq,not_true_eq_false,not_false_eq_true,if_true,if_false,decide_true,decide_false]; rfl
  ·
   rw [if_neg (show ¬ ((1 < n∧(s.getD i 0).toNat=48)∨n < m) from by omega)]
   have hb2:(if decide (((i + n:Nat):Int) < (s.length:Int)) then ay (idx s ((i + n:Nat):Int)) fun x2=>ql x2 else some false)=some false:=by
    by_cases h4:i + n < s.length
    ·
     simp (disch:=omega) only [letter_eq,dflt,bB,bD,bX,bq,bE,if_pos,if_neg,au,aC,aB,aF,aH,aK,aJ,aI,decide_eq_true_eq,beq_iff_eq,bne_iff_ne,ne_eq,Bool.and_eq_true,Bool.or_eq_true,Bool.not_eq_true',Bool.not_eq_true,decide_eq_false_iff_not,beq_eq_false_iff_ne,bne_eq_false_iff_eq,Int.toNat_add,Int.toNat_natCast,Int.reduceToNat,Int.zero_add,Int.add_zero,Nat.add_zero,Nat.zero_add,Bool.true_and,Bool.and_true,Bool.false_and,Bool.and_false,Bool.true_or,Bool.or_true,Bool.false_or,Bool.or_false,Bool.not_true,Bool.not_false,Bool.false_eq_true,Bool.true_eq_false,reduceCtorEq,not_true_eq_false,not_false_eq_true,if_true,if_false,decide_true,decide_false]; cases hl:nG (s.getD (i + n) 0) with
     | false=>rfl
     | true=>
      exact absurd (hlt.2 ⟨_,by rw [Pq,List.getElem?_eq_getElem h4],by rw [List.getD_eq_getElem?_getD,List.getElem?_eq_getElem h4] at hl; exact hl⟩) hw
    · simp (disch:=omega) only [bB,bD,bX,bq,bE,if_pos,if_neg,au,aC,aB,aF,aH,aK,aJ,aI,decide_eq_true_eq,beq_iff_eq,bne_iff_ne,ne_eq,Bool.and_eq_true,Bool.or_eq_true,Bool.not_eq_true',Bool.not_eq_true,decide_eq_false_iff_not,beq_eq_false_iff_ne,bne_eq_false_iff_eq,Int.toNat_add,Int.toNat_natCast,Int.reduceToNat,Int.zero_add,Int.add_zero,Nat.add_zero,Nat.zero_add,Bool.true_and,Bool.and_true,Bool.false_and,Bool.and_false,Bool.true_or,Bool.or_true,Bool.false_or,Bool.or_false,Bool.not_true,Bool.not_false,Bool.false_eq_true,Bool.true_eq_false,reduceCtorEq,not_true_eq_false,not_false_eq_true,if_true,if_false,decide_true,decide_false]
   have hb1:(if decide (1 < (n:Int)) then ay (idx ((s.drop i).take n) 0) fun x1=>some ((x1.toNat:Int) == 48) else some false)=some false:=by
    by_cases h1:1 < n
    ·
     simp (disch:=omega) only [e2,e3,dflt,bB,bD,bX,bq,bE,if_pos,if_neg,au,aC,aB,aF,aH,aK,aJ,aI,decide_eq_true_eq,beq_iff_eq,bne_iff_ne,ne_eq,Bool.and_eq_true,Bool.or_eq_true,Bool.not_eq_true',Bool.not_eq_true,decide_eq_false_iff_not,beq_eq_false_iff_ne,bne_eq_false_iff_eq,Int.toNat_add,Int.toNat_natCast,Int.reduceToNat,Int.zero_add,Int.add_zero,Nat.add_zero,Nat.zero_add,Bool.true_and,Bool.and_true,Bool.false_and,Bool.and_false,Bool.true_or,Bool.or_true,Bool.false_or,Bool.or_false,Bool.not_true,Bool.not_false,Bool.false_eq_true,Bool.true_eq_false,reduceCtorEq,not_true_eq_false,not_false_eq_true,if_true,if_false,decide_true,decide_false]; simp only [Option.some.injEq,beq_eq_false_iff_ne]; omega
    · simp (disch:=omega) only [bB,bD,bX,bq,bE,if_pos,if_neg,au,aC,aB,aF,aH,aK,aJ,aI,decide_eq_true_eq,beq_iff_eq,bne_iff_ne,ne_eq,Bool.and_eq_true,Bool.or_eq_true,Bool.not_eq_true',Bool.not_eq_true,decide_eq_false_iff_not,beq_eq_false_iff_ne,bne_eq_false_iff_eq,Int.toNat_add,Int.toNat_natCast,Int.reduceToNat,Int.zero_add,Int.add_zero,Nat.add_zero,Nat.zero_add,Bool.true_and,Bool.and_true,Bool.false_and,Bool.and_false,Bool.true_or,Bool.or_true,Bool.false_or,Bool.or_false,Bool.not_true,Bool.not_false,Bool.false_eq_true,Bool.true_eq_false,reduceCtorEq,not_true_eq_false,not_false_eq_true,if_true,if_false,decide_true,decide_false]
   rw [hb1,au,if_neg (by simp),hb2]; simp (disch:=omega) only [YM (s:=(s.drop i).take n) (by rw [e2]; omega) htk,bB,bD,bX,bq,bE,if_pos,if_neg,au,aC,aB,aF,aH,aK,aJ,aI,decide_eq_true_eq,beq_iff_eq,bne_iff_ne,ne_eq,Bool.and_eq_true,Bool.or_eq_true,Bool.not_eq_true',Bool.not_eq_true,decide_eq_false_iff_not,beq_eq_false_iff_ne,bne_eq_false_iff_eq,Int.toNat_add,Int.toNat_natCast,Int.reduceToNat,Int.zero_add,Int.add_zero,Nat.add_zero,Nat.zero_add,Bool.true_and,Bool.and_true,Bool.false_and,Bool.and_false,Bool.true_or,Bool.or_true,Bool.false_or,Bool.or_false,Bool.not_true,Bool.not_false,Bool.false_eq_true,Bool.true_eq_false,reduceCtorEq,not_true_eq_false,not_false_eq_true,if_true,if_false,decide_true,decide_false]; by_cases h6:Bt < val ((s.drop i).take n)
   · simp (disch:=omega) only [h6,bB,bD,bX,bq,bE,if_pos,if_neg,au,aC,aB,aF,aH,aK,aJ,aI,decide_eq_true_eq,beq_iff_eq,bne_iff_ne,ne_eq,Bool.and_eq_true,Bool.or_eq_true,Bool.not_eq_true',Bool.not_eq_true,decide_eq_false_iff_not,beq_eq_false_iff_ne,bne_eq_false_iff_eq,Int.toNat_add,Int.toNat_natCast,Int.reduceToNat,Int.zero_add,Int.add_zero,Nat.add_zero,Nat.zero_add,Bool.true_and,Bool.and_true,Bool.false_and,Bool.and_false,Bool.true_or,Bool.or_true,Bool.false_or,Bool.or_false,Bool.not_true,Bool.not_false,Bool.false_eq_true,Bool.true_eq_false,reduceCtorEq,not_true_eq_false,not_false_eq_true,if_true,if_false,decide_true,decide_false]; rfl
   · simp (disch:=omega) only [h6,bB,bD,bX,bq,bE,if_pos,if_neg,au,aC,aB,aF,aH,aK,aJ,aI,decide_eq_true_eq,beq_iff_eq,bne_iff_ne,ne_eq,Bool.and_eq_true,Bool.or_eq_true,Bool.not_eq_true',Bool.not_eq_true,decide_eq_false_iff_not,beq_eq_false_iff_ne,bne_eq_false_iff_eq,Int.toNat_add,Int.toNat_natCast,Int.reduceToNat,Int.zero_add,Int.add_zero,Nat.add_zero,Nat.zero_add,Bool.true_and,Bool.and_true,Bool.false_and,Bool.and_false,Bool.true_or,Bool.or_true,Bool.false_or,Bool.or_false,Bool.not_true,Bool.not_false,Bool.false_eq_true,Bool.true_eq_false,reduceCtorEq,not_true_eq_false,not_false_eq_true,if_true,if_false,decide_true,decide_false]; rfl
theorem Ph {s:Str} (hs:s.length≤2147483648) {i:Nat} (h:i < s.length):xO s (i:Int)=some (ltk i (ni (s.drop i))):=by
 have hh:(s.drop i)=s.getD i 0 :: s.drop (i + 1):=getD_drop h; unfold xO; simp (disch:=omega) only [dflt,letter_eq,digit_eq,bB,bD,bX,bq,bE,if_pos,if_neg,au,aC,aB,aF,aH,aK,aJ,aI,decide_eq_true_eq,beq_iff_eq,bne_iff_ne,ne_eq,Bool.and_eq_true,Bool.or_eq_true,Bool.not_eq_true',Bool.not_eq_true,decide_eq_false_iff_not,beq_eq_false_iff_ne,bne_eq_false_iff_eq,Int.toNat_add,Int.toNat_natCast,Int.reduceToNat,Int.zero_add,Int.add_zero,Nat.add_zero,Nat.zero_add,Bool.true_and,Bool.and_true,Bool.false_and,Bool.and_false,Bool.true_or,Bool.or_true,Bool.false_or,Bool.or_false,Bool.not_true,Bool.not_false,Bool.false_eq_true,Bool.true_eq_false,reduceCtorEq,not_true_eq_false,not_false_eq_true,if_true,if_false,decide_true,decide_false]; cases hl:nG (s.getD i 0) with
 | true=>
  have hd:isDigit (s.getD i 0)=false:=by
   rw [yO] at hl; cases hd:isDigit (s.getD i 0) with
   | false=>rfl
   | true=>rw [oH] at hd; omega
  have F3:¬ (s.getD i 0).toNat=34:=by rw [yO] at hl; omega
  rw [if_pos rfl,YL hs h,hh]; simp only [ni,hd,hl,F3,if_false,if_true,Bool.false_eq_true]
 | false=>
  rw [if_neg (by simp)]; cases hd:isDigit (s.getD i 0) with
  | true=>rw [if_pos rfl,UC hs h hd]
  | false=>
   rw [if_neg (by simp)]; by_cases F3:(s.getD i 0).toNat=34
   ·
    simp (disch:=omega) only [YK hs h,bB,bD,bX,bq,bE,if_pos,if_neg,au,aC,aB,aF,aH,aK,aJ,aI,decide_eq_true_eq,beq_iff_eq,bne_iff_ne,ne_eq,Bool.and_eq_true,Bool.or_eq_true,Bool.not_eq_true',Bool.not_eq_true,decide_eq_false_iff_not,beq_eq_false_iff_ne,bne_eq_false_iff_eq,Int.toNat_add,Int.toNat_natCast,Int.reduceToNat,Int.zero_add,Int.add_zero,Nat.add_zero,Nat.zero_add,Bool.true_and,Bool.and_true,Bool.false_and,Bool.and_false,Bool.true_or,Bool.or_true,Bool.false_or,Bool.or_false,Bool.not_true,Bool.not_false,Bool.false_eq_true,Bool.true_eq_false,reduceCtorEq,not_true_eq_false,not_false_eq_true,if_true,if_false,decide_true,decide_false]; rw [hh]; simp only [ni,hd,F3,if_false,if_true,Bool.false_eq_true,Uy,ltk]; split <;> simp_all
   ·
    simp (disch:=omega) only [acC hs h,bB,bD,bX,bq,bE,if_pos,if_neg,au,aC,aB,aF,aH,aK,aJ,aI,decide_eq_true_eq,beq_iff_eq,bne_iff_ne,ne_eq,Bool.and_eq_true,Bool.or_eq_true,Bool.not_eq_true',Bool.not_eq_true,decide_eq_false_iff_not,beq_eq_false_iff_ne,bne_eq_false_iff_eq,Int.toNat_add,Int.toNat_natCast,Int.reduceToNat,Int.zero_add,Int.add_zero,Nat.add_zero,Nat.zero_add,Bool.true_and,Bool.and_true,Bool.false_and,Bool.and_false,Bool.true_or,Bool.or_true,Bool.false_or,Bool.or_false,Bool.not_true,Bool.not_false,Bool.false_eq_true,Bool.true_eq_false,reduceCtorEq,not_true_eq_false,not_false_eq_true,if_true,if_false,decide_true,decide_false]; rw [hh]; simp only [ni,hd,hl,F3,if_false,if_true,Bool.false_eq_true,ltk]; generalize opn (s.getD i 0 :: s.drop (i + 1))=n; by_cases ho:n=0
    · simp (disch:=omega) only [ho,bB,bD,bX,bq,bE,if_pos,if_neg,au,aC,aB,aF,aH,aK,aJ,aI,decide_eq_true_eq,beq_iff_eq,bne_iff_ne,ne_eq,Bool.and_eq_true,Bool.or_eq_true,Bool.not_eq_true',Bool.not_eq_true,decide_eq_false_iff_not,beq_eq_false_iff_ne,bne_eq_false_iff_eq,Int.toNat_add,Int.toNat_natCast,Int.reduceToNat,Int.zero_add,Int.add_zero,Nat.add_zero,Nat.zero_add,Bool.true_and,Bool.and_true,Bool.false_and,Bool.and_false,Bool.true_or,Bool.or_true,Bool.false_or,Bool.or_false,Bool.not_true,Bool.not_false,Bool.false_eq_true,Bool.true_eq_false,reduceCtorEq,not_true_eq_false,not_false_eq_true,if_true,if_false,decide_true,decide_false]
    · simp (disch:=omega) only [ho,bB,bD,bX,bq,bE,if_pos,if_neg,au,aC,aB,aF,aH,aK,aJ,aI,decide_eq_true_eq,beq_iff_eq,bne_iff_ne,ne_eq,Bool.and_eq_true,Bool.or_eq_true,Bool.not_eq_true',Bool.not_eq_true,decide_eq_false_iff_not,beq_eq_false_iff_ne,bne_eq_false_iff_eq,Int.toNat_add,Int.toNat_natCast,Int.reduceToNat,Int.zero_add,Int.add_zero,Nat.add_zero,Nat.zero_add,Bool.true_and,Bool.and_true,Bool.false_and,Bool.and_false,Bool.true_or,Bool.or_true,Bool.false_or,Bool.or_false,Bool.not_true,Bool.not_false,Bool.false_eq_true,Bool.true_eq_false,reduceCtorEq,not_true_eq_false,not_false_eq_true,if_true,if_false,decide_true,decide_false]
theorem Um {s:Str} (hs:s.length≤2147483648) {i:Nat} (h:i < s.length) (hd:isDigit (s.getD i 0)=true):zI s (i:Int)=some (rtk (ni (s.drop i))):=by
 have hle:=yH isDigit (s.drop i); rw [pQ] at hle; have htk:=IW isDigit (s.drop i); have hpos:0 < span isDigit (s.drop i):=by rw [getD_drop h,kX,hd]; simp
 have hh:(s.drop i)=s.getD i 0 :: s.drop (i + 1):=getD_drop h
 have ht:ni (s.drop i)=if (1 < span isDigit (s.drop i)∧(s.getD i 0).toNat=48)∨span isDigit (s.drop i) < span isWord (s.drop i) then (0,[],0,5)
   else if Bt < val ((s.drop i).take (span isDigit (s.drop i))) then (0,[],0,2) else (2,(s.drop i).take (span isDigit (s.drop i)),span isDigit (s.drop i),0):=by
  rw [hh]; simp only [ni,hd,if_true]
 rw [ht]
 have hsl:∀ n,i + n≤s.length→sl s (i:Int) (bV ((i:Int) + (n:Int)))=some ((s.drop i).take n):=by
  intro n hn; simp (disch:=omega) only [bB,bD,bX,bq,bE,if_pos,if_neg,au,aC,aB,aF,aH,aK,aJ,aI,decide_eq_true_eq,beq_iff_eq,bne_iff_ne,ne_eq,Bool.and_eq_true,Bool.or_eq_true,Bool.not_eq_true',Bool.not_eq_true,decide_eq_false_iff_not,beq_eq_false_iff_ne,bne_eq_false_iff_eq,Int.toNat_add,Int.toNat_natCast,Int.reduceToNat,Int.zero_add,Int.add_zero,Nat.add_zero,Nat.zero_add,Bool.true_and,Bool.and_true,Bool.false_and,Bool.and_false,Bool.true_or,Bool.or_true,Bool.false_or,Bool.or_false,Bool.not_true,Bool.not_false,Bool.false_eq_true,Bool.true_eq_false,reduceCtorEq,not_true_eq_false,not_false_eq_true,if_true,if_false,decide_true,decide_false]; rw [u_]
 unfold zI; rw [Xh (by omega) (by omega),Ve (by omega) (by omega)]; have hsn:=hsl (span isDigit (s.drop i)) (by omega); generalize span isDigit (s.drop i)=n at hle htk hpos hsn ⊢; generalize span isWord (s.drop i)=m at ⊢; have e2:((s.drop i).take n).length=n:=by simp; omega
 have e3:((s.drop i).take n).getD 0 0=s.getD i 0:=by
  obtain ⟨k,rfl⟩:∃ k,n=k + 1:=⟨n - 1,by omega⟩; rw [hh]; rfl
 have hne:(s.drop i).take n≠[]:=fun h0=>by rw [h0] at e2; simp at e2; omega
 rw [au,au]; by_cases hw:n < m
 ·
  rw [if_pos (show (1 < n∧(s.getD i 0).toNat=48)∨n < m from .inr hw)]; simp (disch:=omega) only [bB,bD,bX,bq,bE,if_pos,if_neg,au,aC,aB,aF,aH,aK,aJ,aI,decide_eq_true_eq,beq_iff_eq,bne_iff_ne,ne_eq,Bool.and_eq_true,Bool.or_eq_true,Bool.not_eq_true',Bool.not_eq_true,decide_eq_false_iff_not,beq_eq_false_iff_ne,bne_eq_false_iff_eq,Int.toNat_add,Int.toNat_natCast,Int.reduceToNat,Int.zero_add,Int.add_zero,Nat.add_zero,Nat.zero_add,Bool.true_and,Bool.and_true,Bool.false_and,Bool.and_false,Bool.true_or,Bool.or_true,Bool.false_or,Bool.or_false,Bool.not_true,Bool.not_false,Bool.false_eq_true,Bool.true_eq_false,reduceCtorEq,not_true_eq_false,not_false_eq_true,if_true,if_false,decide_true,decide_false]; rfl
 ·
  by_cases hz:1 < n∧(s.getD i 0).toNat=48
  ·
   rw [if_pos (show (1 < n∧(s.getD i 0).toNat=48)∨n < m from .inl hz)]; simp (disch:=omega) only [dflt,bB,bD,bX,bq,bE,if_pos,if_neg,au,aC,aB,aF,aH,aK,aJ,aI,decide_eq_true_eq,beq_iff_eq,bne_iff_ne,ne_eq,Bool.and_eq_true,Bool.or_eq_true,Bool.not_eq_true',Bool.not_eq_true,decide_eq_false_iff_not,beq_eq_false_iff_ne,bne_eq_false_iff_eq,Int.toNat_add,Int.toNat_natCast,Int.reduceToNat,Int.zero_add,Int.add_zero,Nat.add_zero,Nat.zero_add,Bool.true_and,Bool.and_true,Bool.false_and,Bool.and_false,Bool.true_or,Bool.or_true,Bool.false_or,Bool.or_false,Bool.not_true,Bool.not_false,Bool.false_eq_true,Bool.true_eq_false,reduceCtorEq,not_true_eq_false,not_false_eq_true,if_true,if_false,decide_true,decide_false]; rfl
  ·
   rw [if_neg (show ¬ ((1 < n∧(s.getD i 0).toNat=48)∨n < m) from by omega)]
   have hb:(if decide ((n:Int) < (m:Int)) then some true else if decide (1 < (n:Int)) then ay (idx s (i:Int)) fun x2=>some ((x2.toNat:Int) == 48) else some false)=some false:=by
    by_cases h1:1 < n
    ·
     simp (disch:=omega) only [dflt,bB,bD,bX,bq,bE,if_pos,if_neg,au,aC,aB,aF,aH,aK,aJ,aI,decide_eq_true_eq,beq_iff_eq,bne_iff_ne,ne_eq,Bool.and_eq_true,Bool.or_eq_true,Bool.not_eq_true',Bool.not_eq_true,decide_eq_false_iff_not,beq_eq_false_iff_ne,bne_eq_false_iff_eq,Int.toNat_add,Int.toNat_natCast,Int.reduceToNat,Int.zero_add,Int.add_zero,Nat.add_zero,Nat.zero_add,Bool.true_and,Bool.and_true,Bool.false_and,Bool.and_false,Bool.true_or,Bool.or_true,Bool.false_or,Bool.or_false,Bool.not_true,Bool.not_false,Bool.false_eq_true,Bool.true_eq_false,reduceCtorEq,not_true_eq_false,not_false_eq_true,if_true,if_false,decide_true,decide_false]; simp only [Option.some.injEq,beq_eq_false_iff_ne]; omega
    · simp (disch:=omega) only [bB,bD,bX,bq,bE,if_pos,if_neg,au,aC,aB,aF,aH,aK,aJ,aI,decide_eq_true_eq,beq_iff_eq,bne_iff_ne,ne_eq,Bool.and_eq_true,Bool.or_eq_true,Bool.not_eq_true',Bool.not_eq_true,decide_eq_false_iff_not,beq_eq_false_iff_ne,bne_eq_false_iff_eq,Int.toNat_add,Int.toNat_natCast,Int.reduceToNat,Int.zero_add,Int.add_zero,Nat.add_zero,Nat.zero_add,Bool.true_and,Bool.and_true,Bool.false_and,Bool.and_false,Bool.true_or,Bool.or_true,Bool.false_or,Bool.or_false,Bool.not_true,Bool.not_false,Bool.false_eq_true,Bool.true_eq_false,reduceCtorEq,not_true_eq_false,not_false_eq_true,if_true,if_false,decide_true,decide_false]
   rw [hb,au,hsn]; rw [if_neg (by simp),au,aaj htk hne,e2,e3]; by_cases h16:16 < n
   ·
    have hv:Bt < val ((s.drop i).take n):=by
     obtain ⟨k,rfl⟩:∃ k,n=k + 1:=⟨n - 1,by omega⟩; rw [hh,List.take_succ_cons]; refine XQ hd (by omega) ?_; simp [List.length_take]; omega
    rw [if_pos (show 16 < n∨(1 < n∧(s.getD i 0).toNat=48) from .inl h16),if_pos hv]; simp (disch:=omega) only [bB,bD,bX,bq,bE,if_pos,if_neg,au,aC,aB,aF,aH,aK,aJ,aI,decide_eq_true_eq,beq_iff_eq,bne_iff_ne,ne_eq,Bool.and_eq_true,Bool.or_eq_true,Bool.not_eq_true',Bool.not_eq_true,decide_eq_false_iff_not,beq_eq_false_iff_ne,bne_eq_false_iff_eq,Int.toNat_add,Int.toNat_natCast,Int.reduceToNat,Int.zero_add,Int.add_zero,Nat.add_zero,Nat.zero_add,Bool.true_and,Bool.and_true,Bool.false_and,Bool.and_false,Bool.true_or,Bool.or_true,Bool.false_or,Bool.or_false,Bool.not_true,Bool.not_false,Bool.false_eq_true,Bool.true_eq_false,reduceCtorEq,not_true_eq_false,not_false_eq_true,if_true,if_false,decide_true,decide_false]; rfl
   ·
    rw [if_neg (show ¬ (16 < n∨(1 < n∧(s.getD i 0).toNat=48)) from by omega)]; by_cases h6:Bt < val ((s.drop i).take n)
    ·
     simp (disch:=omega) only [h6,bB,bD,bX,bq,bE,if_pos,if_neg,au,aC,aB,aF,aH,aK,aJ,aI,decide_eq_true_eq,beq_iff_eq,bne_iff_ne,ne_eq,Bool.and_eq_true,Bool.or_eq_true,Bool.not_eq_true',Bool.not_eq_true,decide_eq_false_iff_not,beq_eq_false_iff_ne,bne_eq_false_iff_eq,Int.toNat_add,Int.toNat_natCast,Int.reduceToNat,Int.zero_add,Int.add_zero,Nat.add_zero,Nat.zero_add,Bool.true_and,Bool.and_true,Bool.false_and,Bool.and_false,Bool.true_or,Bool.or_true,Bool.false_or,Bool.or_false,Bool.not_true,Bool.not_false,Bool.false_eq_true,Bool.true_eq_false,reduceCtorEq,not_true_eq_false,not_false_eq_true,if_true,if_false,decide_true,decide_false]; rfl
    ·
     have h7:val ((s.drop i).take n)≤Bt:=by omega
     simp (disch:=omega) only [h6,h7,bB,bD,bX,bq,bE,if_pos,if_neg,au,aC,aB,aF,aH,aK,aJ,aI,decide_eq_true_eq,beq_iff_eq,bne_iff_ne,ne_eq,Bool.and_eq_true,Bool.or_eq_true,Bool.not_eq_true',Bool.not_eq_true,decide_eq_false_iff_not,beq_eq_false_iff_ne,bne_eq_false_iff_eq,Int.toNat_add,Int.toNat_natCast,Int.reduceToNat,Int.zero_add,Int.add_zero,Nat.add_zero,Nat.zero_add,Bool.true_and,Bool.and_true,Bool.false_and,Bool.and_false,Bool.true_or,Bool.or_true,Bool.false_or,Bool.or_false,Bool.not_true,Bool.not_false,Bool.false_eq_true,Bool.true_eq_false,reduceCtorEq,not_true_eq_false,not_false_eq_true,if_true,if_false,decide_true,decide_false]; rfl
theorem IV {c:UInt8} {l:Str}:span isWord (c :: l)=0↔isWord c=false:=by
 rw [kX]; cases isWord c <;> simp
theorem Wm {s:Str} (hs:s.length≤2147483648) {i:Nat} (h:i < s.length):BO s (i:Int)=some (rtk (ni (s.drop i))):=by
 have hh:(s.drop i)=s.getD i 0 :: s.drop (i + 1):=getD_drop h; unfold BO; simp (disch:=omega) only [dflt,LG,BF,bB,bD,bX,bq,bE,if_pos,if_neg,au,aC,aB,aF,aH,aK,aJ,aI,decide_eq_true_eq,beq_iff_eq,bne_iff_ne,ne_eq,Bool.and_eq_true,Bool.or_eq_true,Bool.not_eq_true',Bool.not_eq_true,decide_eq_false_iff_not,beq_eq_false_iff_ne,bne_eq_false_iff_eq,Int.toNat_add,Int.toNat_natCast,Int.reduceToNat,Int.zero_add,Int.add_zero,Nat.add_zero,Nat.zero_add,Bool.true_and,Bool.and_true,Bool.false_and,Bool.and_false,Bool.true_or,Bool.or_true,Bool.false_or,Bool.or_false,Bool.not_true,Bool.not_false,Bool.false_eq_true,Bool.true_eq_false,reduceCtorEq,not_true_eq_false,not_false_eq_true,if_true,if_false,decide_true,decide_false]; cases hd:isDigit (s.getD i 0) with
 | true=>rw [if_pos rfl,Um hs h hd]
 | false=>
  rw [if_neg (by simp)]; by_cases F3:(s.getD i 0).toNat=34
  ·
   simp (disch:=omega) only [X_ hs h,bB,bD,bX,bq,bE,if_pos,if_neg,au,aC,aB,aF,aH,aK,aJ,aI,decide_eq_true_eq,beq_iff_eq,bne_iff_ne,ne_eq,Bool.and_eq_true,Bool.or_eq_true,Bool.not_eq_true',Bool.not_eq_true,decide_eq_false_iff_not,beq_eq_false_iff_ne,bne_eq_false_iff_eq,Int.toNat_add,Int.toNat_natCast,Int.reduceToNat,Int.zero_add,Int.add_zero,Nat.add_zero,Nat.zero_add,Bool.true_and,Bool.and_true,Bool.false_and,Bool.and_false,Bool.true_or,Bool.or_true,Bool.false_or,Bool.or_false,Bool.not_true,Bool.not_false,Bool.false_eq_true,Bool.true_eq_false,reduceCtorEq,not_true_eq_false,not_false_eq_true,if_true,if_false,decide_true,decide_false]; rw [hh]; simp only [ni,hd,F3,if_false,if_true,Bool.false_eq_true,Wn,rtk]; split <;> simp_all
  ·
   have hwl:=yH isWord (s.drop i); rw [pQ] at hwl; simp (disch:=omega) only [Ve (s:=s) (by omega) (Nat.le_of_lt h),bB,bD,bX,bq,bE,if_pos,if_neg,au,aC,aB,aF,aH,aK,aJ,aI,decide_eq_true_eq,beq_iff_eq,bne_iff_ne,ne_eq,Bool.and_eq_true,Bool.or_eq_true,Bool.not_eq_true',Bool.not_eq_true,decide_eq_false_iff_not,beq_eq_false_iff_ne,bne_eq_false_iff_eq,Int.toNat_add,Int.toNat_natCast,Int.reduceToNat,Int.zero_add,Int.add_zero,Nat.add_zero,Nat.zero_add,Bool.true_and,Bool.and_true,Bool.false_and,Bool.and_false,Bool.true_or,Bool.or_true,Bool.false_or,Bool.or_false,Bool.not_true,Bool.not_false,Bool.false_eq_true,Bool.true_eq_false,reduceCtorEq,not_true_eq_false,not_false_eq_true,if_true,if_false,decide_true,decide_false]
   have hsl:∀ n,i + n≤s.length→sl s (i:Int) (bV ((i:Int) + (n:Int)))=some ((s.drop i).take n):=by
    intro n hn; simp (disch:=omega) only [bB,bD,bX,bq,bE,if_pos,if_neg,au,aC,aB,aF,aH,aK,aJ,aI,decide_eq_true_eq,beq_iff_eq,bne_iff_ne,ne_eq,Bool.and_eq_true,Bool.or_eq_true,Bool.not_eq_true',Bool.not_eq_true,decide_eq_false_iff_not,beq_eq_false_iff_ne,bne_eq_false_iff_eq,Int.toNat_add,Int.toNat_natCast,Int.reduceToNat,Int.zero_add,Int.add_zero,Nat.add_zero,Nat.zero_add,Bool.true_and,Bool.and_true,Bool.false_and,Bool.and_false,Bool.true_or,Bool.or_true,Bool.false_or,Bool.or_false,Bool.not_true,Bool.not_false,Bool.false_eq_true,Bool.true_eq_false,reduceCtorEq,not_true_eq_false,not_false_eq_true,if_true,if_false,decide_true,decide_false]; rw [u_]
   cases hl:nG (s.getD i 0) with
   | true=>
    have hpos:0 < span isWord (s.drop i):=by rw [hh,kX,isWord,hl]; simp
    have hsn:=hsl _ (show i + span isWord (s.drop i)≤s.length from by omega)
    have ht:ni (s.drop i)=if 64 < span isWord (s.drop i) then (0,[],0,3) else (1,(s.drop i).take (span isWord (s.drop i)),span isWord (s.drop i),0):=by
     rw [hh]; simp only [ni,hd,hl,F3,if_false,if_true,Bool.false_eq_true]
    rw [ht]; generalize span isWord (s.drop i)=n at *; by_cases h64:64 < n
    · simp (disch:=omega) only [bB,bD,bX,bq,bE,if_pos,if_neg,au,aC,aB,aF,aH,aK,aJ,aI,decide_eq_true_eq,beq_iff_eq,bne_iff_ne,ne_eq,Bool.and_eq_true,Bool.or_eq_true,Bool.not_eq_true',Bool.not_eq_true,decide_eq_false_iff_not,beq_eq_false_iff_ne,bne_eq_false_iff_eq,Int.toNat_add,Int.toNat_natCast,Int.reduceToNat,Int.zero_add,Int.add_zero,Nat.add_zero,Nat.zero_add,Bool.true_and,Bool.and_true,Bool.false_and,Bool.and_false,Bool.true_or,Bool.or_true,Bool.false_or,Bool.or_false,Bool.not_true,Bool.not_false,Bool.false_eq_true,Bool.true_eq_false,reduceCtorEq,not_true_eq_false,not_false_eq_true,if_true,if_false,decide_true,decide_false]; rfl
    · simp (disch:=omega) only [bB,bD,bX,bq,bE,if_pos,if_neg,au,aC,aB,aF,aH,aK,aJ,aI,decide_eq_true_eq,beq_iff_eq,bne_iff_ne,ne_eq,Bool.and_eq_true,Bool.or_eq_true,Bool.not_eq_true',Bool.not_eq_true,decide_eq_false_iff_not,beq_eq_false_iff_ne,bne_eq_false_iff_eq,Int.toNat_add,Int.toNat_natCast,Int.reduceToNat,Int.zero_add,Int.add_zero,Nat.add_zero,Nat.zero_add,Bool.true_and,Bool.and_true,Bool.false_and,Bool.and_false,Bool.true_or,Bool.or_true,Bool.false_or,Bool.or_false,Bool.not_true,Bool.not_false,Bool.false_eq_true,Bool.true_eq_false,reduceCtorEq,not_true_eq_false,not_false_eq_true,if_true,if_false,decide_true,decide_false]; rw [u_]; rfl
   | false=>
    have h0:span isWord (s.drop i)=0:=by rw [hh,IV,isWord,hl,hd]; rfl
    have hol:opn (s.drop i)≤(s.drop i).length:=by
     rw [hh]; cases s.drop (i + 1) with
     | nil=>simp only [opn]; split <;> simp
     | cons b r=>simp only [opn]; (repeat' split) <;> simp
    rw [pQ] at hol; have hsn:=hsl _ (show i + opn (s.drop i)≤s.length from by omega)
    have ht:ni (s.drop i)=if opn (s.drop i)=0 then (0,[],0,5) else (4,(s.drop i).take (opn (s.drop i)),opn (s.drop i),0):=by
     rw [hh]; simp only [ni,hd,hl,F3,if_false,if_true,Bool.false_eq_true]
    rw [ht,h0]; simp (disch:=omega) only [abG hs h,bB,bD,bX,bq,bE,if_pos,if_neg,au,aC,aB,aF,aH,aK,aJ,aI,decide_eq_true_eq,beq_iff_eq,bne_iff_ne,ne_eq,Bool.and_eq_true,Bool.or_eq_true,Bool.not_eq_true',Bool.not_eq_true,decide_eq_false_iff_not,beq_eq_false_iff_ne,bne_eq_false_iff_eq,Int.toNat_add,Int.toNat_natCast,Int.reduceToNat,Int.zero_add,Int.add_zero,Nat.add_zero,Nat.zero_add,Bool.true_and,Bool.and_true,Bool.false_and,Bool.and_false,Bool.true_or,Bool.or_true,Bool.false_or,Bool.or_false,Bool.not_true,Bool.not_false,Bool.false_eq_true,Bool.true_eq_false,reduceCtorEq,not_true_eq_false,not_false_eq_true,if_true,if_false,decide_true,decide_false]; generalize opn (s.drop i)=n at *; by_cases ho:n=0
    · simp (disch:=omega) only [bB,bD,bX,bq,bE,if_pos,if_neg,au,aC,aB,aF,aH,aK,aJ,aI,decide_eq_true_eq,beq_iff_eq,bne_iff_ne,ne_eq,Bool.and_eq_true,Bool.or_eq_true,Bool.not_eq_true',Bool.not_eq_true,decide_eq_false_iff_not,beq_eq_false_iff_ne,bne_eq_false_iff_eq,Int.toNat_add,Int.toNat_natCast,Int.reduceToNat,Int.zero_add,Int.add_zero,Nat.add_zero,Nat.zero_add,Bool.true_and,Bool.and_true,Bool.false_and,Bool.and_false,Bool.true_or,Bool.or_true,Bool.false_or,Bool.or_false,Bool.not_true,Bool.not_false,Bool.false_eq_true,Bool.true_eq_false,reduceCtorEq,not_true_eq_false,not_false_eq_true,if_true,if_false,decide_true,decide_false]; rfl
    · simp (disch:=omega) only [bB,bD,bX,bq,bE,if_pos,if_neg,au,aC,aB,aF,aH,aK,aJ,aI,decide_eq_true_eq,beq_iff_eq,bne_iff_ne,ne_eq,Bool.and_eq_true,Bool.or_eq_true,Bool.not_eq_true',Bool.not_eq_true,decide_eq_false_iff_not,beq_eq_false_iff_ne,bne_eq_false_iff_eq,Int.toNat_add,Int.toNat_natCast,Int.reduceToNat,Int.zero_add,Int.add_zero,Nat.add_zero,Nat.zero_add,Bool.true_and,Bool.and_true,Bool.false_and,Bool.and_false,Bool.true_or,Bool.or_true,Bool.false_or,Bool.or_false,Bool.not_true,Bool.not_false,Bool.false_eq_true,Bool.true_eq_false,reduceCtorEq,not_true_eq_false,not_false_eq_true,if_true,if_false,decide_true,decide_false]; rw [u_]; rfl
end Go.Ft
namespace Go.Ft
open Go
attribute [local congr] jQ
theorem YZ (s:Str) (i:Nat):(ByteArray.mk s.toArray).get! i=s.getD i 0:=by
 unfold ByteArray.get!; simp [getElem!_def]; rfl
theorem size_mk' (s:Str):(ByteArray.mk s.toArray).size=s.length:=by simp [ByteArray.size]
theorem dec_lt {s:Str} {p:Nat} (hc:(s.getD p 0).toNat < 128):dec s p=((s.getD p 0).toNat,1):=by
 unfold dec Utf8.decode; simp only [YZ,Nat.add_zero]; rw [if_pos hc]
theorem UN {s:Str} {p:Nat} (h:p < s.length) (hc:128≤(s.getD p 0).toNat):
  128≤(dec s p).1∧1≤(dec s p).2∧p + (dec s p).2≤s.length∧∀ j,1≤j→j < (dec s p).2→128≤(s.getD (p + j) 0).toNat:=by
 unfold dec Utf8.decode; simp only [YZ,Nat.add_zero,size_mk',Utf8.runeError]; rw [if_neg (by omega)]
 repeat' split
 all_goals (rename_i h1; simp only [Bool.and_eq_true,decide_eq_true_eq,beq_iff_eq] at *)
 all_goals refine ⟨by (try simp only); omega,by (try simp only); omega,by (try simp only); omega,fun j h2 h3=>?_⟩
 all_goals (try simp only at h3)
 all_goals try (exfalso; omega)
 all_goals
  rcases Nat.lt_or_ge j 2 with g1 | g1
  ·
   have e:j=1:=Nat.le_antisymm (Nat.le_of_lt_succ g1) h2; subst e; omega
  ·
   rcases Nat.lt_or_ge j 3 with g2 | g2
   ·
    have e:j=2:=Nat.le_antisymm (Nat.le_of_lt_succ g2) g1; subst e; omega
   ·
    have e:j=3∨4≤j:=by omega
    rcases e with e | e
    ·
     subst e; omega
    · omega
def Bd (s:Str) (n:Nat):Prop:=n=s.length∨(s.getD n 0).toNat < 128∨(0 < n∧(s.getD (n - 1) 0).toNat < 128)
theorem Y7 {s:Str} {p n:Nat} (h:p < n) (hn:n≤s.length) (hb:Bd s n):p + (dec s p).2≤n:=by
 rcases Nat.lt_or_ge (s.getD p 0).toNat 128 with hc | hc
 · rw [dec_lt hc]; omega
 ·
  obtain ⟨_,h1,h2,h3⟩:=UN (by omega:p < s.length) hc; rcases Nat.lt_or_ge n (p + (dec s p).2) with hlt | hge
  ·
   exfalso; have a1:=h3 (n - p) (by omega) (by omega); rw [show p + (n - p)=n from by omega] at a1; rcases hb with hb | hb | ⟨hb0,hb⟩
   · omega
   · omega
   ·
    by_cases e:n - 1=p
    · rw [e] at hb; omega
    ·
     have a2:=h3 (n - 1 - p) (by omega) (by omega); rw [show p + (n - 1 - p)=n - 1 from by omega] at a2; omega
  · exact hge
def rz (c:UInt8):Bool:=(c.toNat:Int) != 10
@[simp] theorem ad2 (c:UInt8):r_ c=some (rz c):=rfl
@[simp] theorem TR (r:Int):wm r=some ((r == 32) || (r == 9)):=rfl
def WI (t:Str) (o:Nat):Nat:=if t=[40]∨t=[91] then o + 1 else if t=[41]∨t=[93] then o - 1 else o
theorem TQ (t:Str) (o:Nat) (h:o < 4611686018427387904):r9 t (o:Int)=some ((WI t o:Nat):Int):=by
 unfold r9 WI; by_cases h1:t=[40]
 · subst h1; simp (disch:=omega) only [bB,bD,bX,bq,bE,if_pos,if_neg,au,aC,aB,aF,aH,aK,aJ,aI,decide_eq_true_eq,beq_iff_eq,bne_iff_ne,ne_eq,Bool.and_eq_true,Bool.or_eq_true,Bool.not_eq_true',Bool.not_eq_true,decide_eq_false_iff_not,beq_eq_false_iff_ne,bne_eq_false_iff_eq,Int.toNat_add,Int.toNat_natCast,Int.reduceToNat,Int.zero_add,Int.add_zero,Nat.add_zero,Nat.zero_add,Bool.true_and,Bool.and_true,Bool.false_and,Bool.and_false,Bool.true_or,Bool.or_true,Bool.false_or,Bool.or_false,Bool.not_true,Bool.not_false,Bool.false_eq_true,Bool.true_eq_false,reduceCtorEq,not_true_eq_false,not_false_eq_true,if_true,if_false,decide_true,decide_false]; simp
 ·
  by_cases h2:t=[91]
  · subst h2; simp (disch:=omega) only [bB,bD,bX,bq,bE,if_pos,if_neg,au,aC,aB,aF,aH,aK,aJ,aI,decide_eq_true_eq,beq_iff_eq,bne_iff_ne,ne_eq,Bool.and_eq_true,Bool.or_eq_true,Bool.not_eq_true',Bool.not_eq_true,decide_eq_false_iff_not,beq_eq_false_iff_ne,bne_eq_false_iff_eq,Int.toNat_add,Int.toNat_natCast,Int.reduceToNat,Int.zero_add,Int.add_zero,Nat.add_zero,Nat.zero_add,Bool.true_and,Bool.and_true,Bool.false_and,Bool.and_false,Bool.true_or,Bool.or_true,Bool.false_or,Bool.or_false,Bool.not_true,Bool.not_false,Bool.false_eq_true,Bool.true_eq_false,reduceCtorEq,not_true_eq_false,not_false_eq_true,if_true,if_false,decide_true,decide_false]; simp
  ·
   by_cases h3:t=[41]
   ·
    subst h3; simp (disch:=omega) only [bB,bD,bX,bq,bE,if_pos,if_neg,au,aC,aB,aF,aH,aK,aJ,aI,decide_eq_true_eq,beq_iff_eq,bne_iff_ne,ne_eq,Bool.and_eq_true,Bool.or_eq_true,Bool.not_eq_true',Bool.not_eq_true,decide_eq_false_iff_not,beq_eq_false_iff_ne,bne_eq_false_iff_eq,Int.toNat_add,Int.toNat_natCast,Int.reduceToNat,Int.zero_add,Int.add_zero,Nat.add_zero,Nat.zero_add,Bool.true_and,Bool.and_true,Bool.false_and,Bool.and_false,Bool.true_or,Bool.or_true,Bool.false_or,Bool.or_false,Bool.not_true,Bool.not_false,Bool.false_eq_true,Bool.true_eq_false,reduceCtorEq,not_true_eq_false,not_false_eq_true,if_true,if_false,decide_true,decide_false]; by_cases h4:1 < o
    · rw [if_pos (by omega)]; simp; omega
    · rw [if_neg (by omega)]; simp; omega
   ·
    by_cases h4:t=[93]
    ·
     subst h4; simp (disch:=omega) only [bB,bD,bX,bq,bE,if_pos,if_neg,au,aC,aB,aF,aH,aK,aJ,aI,decide_eq_true_eq,beq_iff_eq,bne_iff_ne,ne_eq,Bool.and_eq_true,Bool.or_eq_true,Bool.not_eq_true',Bool.not_eq_true,decide_eq_false_iff_not,beq_eq_false_iff_ne,bne_eq_false_iff_eq,Int.toNat_add,Int.toNat_natCast,Int.reduceToNat,Int.zero_add,Int.add_zero,Nat.add_zero,Nat.zero_add,Bool.true_and,Bool.and_true,Bool.false_and,Bool.and_false,Bool.true_or,Bool.or_true,Bool.false_or,Bool.or_false,Bool.not_true,Bool.not_false,Bool.false_eq_true,Bool.true_eq_false,reduceCtorEq,not_true_eq_false,not_false_eq_true,if_true,if_false,decide_true,decide_false]; by_cases h4:1 < o
     · rw [if_pos (by omega)]; simp; omega
     · rw [if_neg (by omega)]; simp; omega
    · simp [h1,h2,h3,h4]
theorem Pe (k:av) (o:Nat) (h:o < 4611686018427387904):qh (o:Int) k=some (((if k.kind=4 then WI k.text o else o:Nat)):Int):=by
 unfold qh WI; by_cases hk:k.kind=4
 ·
  rw [hk]; by_cases h1:k.text=[40]
  · rw [h1]; simp (disch:=omega) only [bB,bD,bX,bq,bE,if_pos,if_neg,au,aC,aB,aF,aH,aK,aJ,aI,decide_eq_true_eq,beq_iff_eq,bne_iff_ne,ne_eq,Bool.and_eq_true,Bool.or_eq_true,Bool.not_eq_true',Bool.not_eq_true,decide_eq_false_iff_not,beq_eq_false_iff_ne,bne_eq_false_iff_eq,Int.toNat_add,Int.toNat_natCast,Int.reduceToNat,Int.zero_add,Int.add_zero,Nat.add_zero,Nat.zero_add,Bool.true_and,Bool.and_true,Bool.false_and,Bool.and_false,Bool.true_or,Bool.or_true,Bool.false_or,Bool.or_false,Bool.not_true,Bool.not_false,Bool.false_eq_true,Bool.true_eq_false,reduceCtorEq,not_true_eq_false,not_false_eq_true,if_true,if_false,decide_true,decide_false]; simp
  ·
   by_cases h2:k.text=[91]
   · rw [h2]; simp (disch:=omega) only [bB,bD,bX,bq,bE,if_pos,if_neg,au,aC,aB,aF,aH,aK,aJ,aI,decide_eq_true_eq,beq_iff_eq,bne_iff_ne,ne_eq,Bool.and_eq_true,Bool.or_eq_true,Bool.not_eq_true',Bool.not_eq_true,decide_eq_false_iff_not,beq_eq_false_iff_ne,bne_eq_false_iff_eq,Int.toNat_add,Int.toNat_natCast,Int.reduceToNat,Int.zero_add,Int.add_zero,Nat.add_zero,Nat.zero_add,Bool.true_and,Bool.and_true,Bool.false_and,Bool.and_false,Bool.true_or,Bool.or_true,Bool.false_or,Bool.or_false,Bool.not_true,Bool.not_false,Bool.false_eq_true,Bool.true_eq_false,reduceCtorEq,not_true_eq_false,not_false_eq_true,if_true,if_false,decide_true,decide_false]; simp
   ·
    by_cases h3:k.text=[41]
    ·
     rw [h3]; by_cases h4:0 < o
     ·
      have:decide ((0:Int) < (o:Int))=true:=by simp; omega
      rw [this]; simp (disch:=omega) only [bB,bD,bX,bq,bE,if_pos,if_neg,au,aC,aB,aF,aH,aK,aJ,aI,decide_eq_true_eq,beq_iff_eq,bne_iff_ne,ne_eq,Bool.and_eq_true,Bool.or_eq_true,Bool.not_eq_true',Bool.not_eq_true,decide_eq_false_iff_not,beq_eq_false_iff_ne,bne_eq_false_iff_eq,Int.toNat_add,Int.toNat_natCast,Int.reduceToNat,Int.zero_add,Int.add_zero,Nat.add_zero,Nat.zero_add,Bool.true_and,Bool.and_true,Bool.false_and,Bool.and_false,Bool.true_or,Bool.or_true,Bool.false_or,Bool.or_false,Bool.not_true,Bool.not_false,Bool.false_eq_true,Bool.true_eq_false,reduceCtorEq,not_true_eq_false,not_false_eq_true,if_true,if_false,decide_true,decide_false]; simp; omega
     ·
      have:decide ((0:Int) < (o:Int))=false:=by simp; omega
      rw [this]; simp; omega
    ·
     by_cases h4:k.text=[93]
     ·
      rw [h4]; by_cases h5:0 < o
      ·
       have:decide ((0:Int) < (o:Int))=true:=by simp; omega
       rw [this]; simp (disch:=omega) only [bB,bD,bX,bq,bE,if_pos,if_neg,au,aC,aB,aF,aH,aK,aJ,aI,decide_eq_true_eq,beq_iff_eq,bne_iff_ne,ne_eq,Bool.and_eq_true,Bool.or_eq_true,Bool.not_eq_true',Bool.not_eq_true,decide_eq_false_iff_not,beq_eq_false_iff_ne,bne_eq_false_iff_eq,Int.toNat_add,Int.toNat_natCast,Int.reduceToNat,Int.zero_add,Int.add_zero,Nat.add_zero,Nat.zero_add,Bool.true_and,Bool.and_true,Bool.false_and,Bool.and_false,Bool.true_or,Bool.or_true,Bool.false_or,Bool.or_false,Bool.not_true,Bool.not_false,Bool.false_eq_true,Bool.true_eq_false,reduceCtorEq,not_true_eq_false,not_false_eq_true,if_true,if_false,decide_true,decide_false]; simp; omega
      ·
       have:decide ((0:Int) < (o:Int))=false:=by simp; omega
       rw [this]; simp; omega
     · simp [h1,h2,h3,h4]
 · simp [hk]
def scan :Nat→Nat→Nat→Bool→Str→List av × Option (Nat × Int)
 | _,_,_,_,[]=>([],none)
 | k + 1,p,o,nl,_ :: r=>scan k (p + 1) o nl r
 | 0,p,o,nl,c :: r=>
  if c.toNat=32∨c.toNat=9 then scan 0 (p + 1) o nl r
  else if c.toNat=35 then scan (span rz r) (p + 1) o nl r
  else if c.toNat=10 then (if o=0∧nl=false then (⟨5,[],p⟩ :: (scan 0 (p + 1) o true r).1,(scan 0 (p + 1) o true r).2) else scan 0 (p + 1) o nl r)
  else if (ni (c :: r)).2.2.2=0 then
   (⟨(ni (c :: r)).1,(ni (c :: r)).2.1,p⟩ :: (scan ((ni (c :: r)).2.2.1 - 1) (p + 1) (if (ni (c :: r)).1=4 then WI (ni (c :: r)).2.1 o else o) false r).1,
    (scan ((ni (c :: r)).2.2.1 - 1) (p + 1) (if (ni (c :: r)).1=4 then WI (ni (c :: r)).2.1 o else o) false r).2)
  else ([],some (p,(ni (c :: r)).2.2.2))
theorem Fz :∀ (j a p o:Nat) (nl:Bool) (r:Str),j≤r.length→scan (a + j) p o nl r=scan a (p + j) o nl (r.drop j)
 | 0,a,p,o,nl,r,_=>rfl
 | j + 1,a,p,o,nl,[],h=>by simp at h
 | j + 1,a,p,o,nl,c :: r,h=>by
  rw [show a + (j + 1)=(a + j) + 1 from rfl,scan,Fz j a (p + 1) o nl r (by simpa using h),List.drop_succ_cons]; rw [show p + 1 + j=p + (j + 1) from by omega]
def fin (out:List av) (x:List av × Option (Nat × Int)):List av × Int × Int:=
 match x.2 with
 | none=>(out ++ x.1,0,0)
 | some (p,e)=>([],(p:Int),e)
def GI (out:List av):Bool:=match out.getLast? with | some t=>t.kind == 5 | none=>false
theorem Ey (out:List av) (t:av):GI (out ++ [t])=(t.kind == 5):=by simp [GI]
theorem EJ (out:List av) (t:av) (x:List av × Option (Nat × Int)):fin out (t :: x.1,x.2)=fin (out ++ [t]) x:=by
 unfold fin; cases x.2 <;> simp
theorem RO :∀ (N:Nat) (r b:Str) (m:Nat),r.length≤N→(txt 0 b m r).2.2=0→m < (txt 0 b m r).2.1∧(txt 0 b m r).2.1≤m + r.length∧(r.getD ((txt 0 b m r).2.1 - m - 1) 0).toNat=34
 | N,[],b,m,_,h=>by simp [txt] at h
 | 0,c :: r,b,m,hN,h=>by simp at hN
 | N + 1,c :: r,b,m,hN,h=>by
  rw [Lj] at h ⊢; by_cases F3:c.toNat=34
  ·
   rw [if_pos F3] at h ⊢; by_cases hl:4096 < b.length
   · rw [if_pos hl] at h; simp at h
   ·
    rw [if_neg hl]; simp only [List.length_cons]; refine ⟨by omega,by omega,?_⟩; rw [show m + 1 - m - 1=0 from by omega]; exact F3
  ·
   rw [if_neg F3] at h ⊢; by_cases he:(chr (c :: r)).2.2=0
   ·
    rw [if_pos he] at h ⊢; obtain ⟨n1,n2⟩:=VN he; generalize (chr (c :: r)).2.1=n at n1 n2 h ⊢; have hlen:((c :: r).drop n).length=r.length + 1 - n:=by simp
    have ih:=RO N ((c :: r).drop n) (b ++ [(chr (c :: r)).1]) (m + n) (by rw [hlen]; simp at hN n2; omega) h; rw [hlen] at ih; simp only [List.length_cons] at n2 ⊢; refine ⟨by omega,by omega,?_⟩; have h3:=ih.2.2; rw [List.getD_eq_getElem?_getD,List.getElem?_drop] at h3; rw [List.getD_eq_getElem?_getD]; rw [show n + ((txt 0 (b ++ [(chr (c :: r)).1]) (m + n) ((c :: r).drop n)).2.1 - (m + n) - 1)=(txt 0 (b ++ [(chr (c :: r)).1]) (m + n) ((c :: r).drop n)).2.1 - m - 1 from by omega] at h3; exact h3
   · rw [if_neg he] at h; exact absurd h he
theorem O5 (p:UInt8→Bool) (l:Str) {i:Nat} (h:i < span p l):p (l.getD i 0)=true:=by
 have h2:=yH p l
 have:=IW p l (l.getD i 0) (by
  rw [List.mem_take_iff_getElem]
  exact ⟨i,by omega,by rw [List.getD_eq_getElem?_getD,List.getElem?_eq_getElem (by omega),Option.getD_some]⟩)
 exact this
theorem acy (l:Str):opn l≤l.length:=by
 match l with
 | []=>simp [opn]
 | [a]=>simp only [opn]; split <;> simp
 | a :: b :: r=>simp only [opn]; (repeat' split) <;> simp
theorem CS {a:UInt8} (h:Ad [a]=true):a.toNat < 128:=by
 simp only [Ad,Bool.or_eq_true,beq_iff_eq,List.cons.injEq,and_true,reduceCtorEq,and_false,false_or] at h; have:a=60∨a=62∨a=43∨a=45∨a=42∨a=47∨a=37∨a=33∨a=63∨a=58∨a=46∨a=44∨a=61∨a=40∨a=41∨a=91∨a=93∨a=123∨a=125:=h; rcases this with rfl | rfl | rfl | rfl | rfl | rfl | rfl | rfl | rfl | rfl | rfl | rfl | rfl | rfl | rfl | rfl | rfl | rfl | rfl <;> decide
theorem J7 {a b:UInt8} (h:Ad [a,b]=true):a.toNat < 128∧b.toNat < 128:=by
 simp only [Ad,Bool.or_eq_true,beq_iff_eq,List.cons.injEq,and_true,reduceCtorEq,and_false,or_false] at h; rcases h with ⟨rfl,rfl⟩ | ⟨rfl,rfl⟩ | ⟨rfl,rfl⟩ | ⟨rfl,rfl⟩ | ⟨rfl,rfl⟩ | ⟨rfl,rfl⟩ <;> decide
theorem IK {c:UInt8} {r:Str} (h:(ni (c :: r)).2.2.2=0):1≤(ni (c :: r)).2.2.1∧(ni (c :: r)).2.2.1≤r.length + 1∧((c :: r).getD ((ni (c :: r)).2.2.1 - 1) 0).toNat < 128∧c.toNat < 128:=by
 simp only [ni] at h ⊢; by_cases hd:isDigit c=true
 ·
  rw [if_pos hd] at h ⊢; have hpos:0 < span isDigit (c :: r):=by rw [kX,hd]; simp
  have hle:=yH isDigit (c :: r); have hg:=O5 isDigit (c :: r) (i:=span isDigit (c :: r) - 1) (by omega); rw [oH] at hd hg; by_cases h1:(1 < span isDigit (c :: r)∧c.toNat=48)∨span isDigit (c :: r) < span isWord (c :: r)
  · rw [if_pos h1] at h; simp at h
  ·
   rw [if_neg h1] at h ⊢; by_cases h2:Bt < val ((c :: r).take (span isDigit (c :: r)))
   · rw [if_pos h2] at h; simp at h
   ·
    rw [if_neg h2]; simp only [List.length_cons] at hle; have hg2:((c :: r).getD (span isDigit (c :: r) - 1) 0).toNat < 128:=by omega
    exact ⟨hpos,hle,hg2,by omega⟩
 ·
  rw [if_neg hd] at h ⊢; by_cases F3:c.toNat=34
  ·
   rw [if_pos F3] at h ⊢; by_cases he:(txt 0 [] 1 r).2.2=0
   ·
    rw [if_pos he]; obtain ⟨a1,a2,a3⟩:=RO r.length r [] 1 (Nat.le_refl _) he; refine ⟨by simp only; omega,by simp only; omega,?_,by omega⟩; simp only; obtain ⟨q,hq⟩:∃ q,(txt 0 [] 1 r).2.1=q + 2:=⟨(txt 0 [] 1 r).2.1 - 2,by omega⟩; rw [hq] at a3 ⊢; have a3:(r.getD q 0).toNat=34:=a3; show ((c :: r).getD (q + 1) 0).toNat < 128; rw [List.getD_cons_succ]; omega
   · rw [if_neg he] at h; exact absurd h he
  ·
   rw [if_neg F3] at h ⊢; by_cases hl:nG c=true
   ·
    rw [if_pos hl] at h ⊢; have hpos:0 < span isWord (c :: r):=by rw [kX,isWord,hl]; simp
    have hle:=yH isWord (c :: r); have hg:=O5 isWord (c :: r) (i:=span isWord (c :: r) - 1) (by omega); rw [yO] at hl; simp only [isWord,Bool.or_eq_true,yO,oH] at hg; by_cases h2:64 < span isWord (c :: r)
    · rw [if_pos h2] at h; simp at h
    ·
     rw [if_neg h2]; simp only [List.length_cons] at hle; have hg2:((c :: r).getD (span isWord (c :: r) - 1) 0).toNat < 128:=by omega
     exact ⟨hpos,hle,hg2,by omega⟩
   ·
    rw [if_neg hl] at h ⊢; have hle:=acy (c :: r); by_cases h2:opn (c :: r)=0
    · rw [if_pos h2] at h; simp at h
    ·
     rw [if_neg h2]; simp only [List.length_cons] at hle; refine ⟨by simp only; omega,hle,?_⟩; cases r with
     | nil=>
      simp only [opn] at h2 ⊢; split
      · rename_i ho; exact ⟨CS ho,CS ho⟩
      · rename_i ho; simp [ho] at h2
     | cons b r=>
      simp only [opn] at h2 ⊢; split
      · rename_i ho; exact ⟨(J7 ho).2,(J7 ho).1⟩
      ·
       rename_i ho2; split
       · rename_i ho; exact ⟨CS ho,CS ho⟩
       · rename_i ho; simp [ho,ho2] at h2
end Go.Ft
namespace Go.Ft
open Go
attribute [local congr] jQ
theorem Pn (out:List av) (h:out≠[]):idx out (bV ((out.length:Int) - 1))=if h2:out.length < 4611686018427387904 then some (out.getLast h) else idx out (bV ((out.length:Int) - 1)):=by
 split
 ·
  rename_i h2; have hl:0 < out.length:=List.length_pos_iff.2 h; rw [bB (by omega) (by omega),show (out.length:Int) - 1=((out.length - 1:Nat):Int) from by omega,Je (by omega)]; congr 1; exact (List.getLast_eq_getElem h).symm
 · rfl
theorem Qr (out:List av) (o:Nat) (h:out.length < 4611686018427387904):
  (if (o:Int)=0 then if (out.length:Int)=0 then some true else ay (idx out ((out.length:Int) - 1)) fun e1=>some (e1.kind != 5) else some false)=some (decide (o=0∧GI out=false)):=by
 by_cases ho:o=0
 ·
  subst ho; by_cases he:out=[]
  · subst he; simp [GI]
  ·
   have hl:0 < out.length:=List.length_pos_iff.2 he; have hl2:¬ ((out.length:Int)=0):=by omega
   have h1:=Pn out he; rw [dif_pos h,bB (by omega) (by omega)] at h1; rw [h1]; simp [hl2,GI,List.getLast?_eq_some_getLast he]; cases hk:(out.getLast he).kind == 5 <;> simp_all
 ·
  have:¬ (o:Int)=0:=by omega
  simp [ho,this]
theorem aeC {s:Str} {p:Nat} (h:p < s.length) (hc:(s.getD p 0).toNat≠10):p + 1 + span rz (s.drop (p + 1))≤s.length∧Bd s (p + 1 + span rz (s.drop (p + 1))):=by
 have hl:=yH rz (s.drop (p + 1)); rw [pQ] at hl; refine ⟨by omega,?_⟩; rcases Nat.lt_or_ge (p + 1 + span rz (s.drop (p + 1))) s.length with h1 | h1
 ·
  right; left
  have key:∀ l:Str,span rz l < l.length→(l.getD (span rz l) 0).toNat=10:=by
   intro l
   induction l with
   | nil=>simp
   | cons c l ih=>
    rw [kX]; cases hn:rz c with
    | true=>simp only [if_true,List.length_cons]; intro h2; rw [List.getD_cons_succ]; exact ih (by omega)
    | false=>simp only [Bool.false_eq_true,if_false,List.length_cons]; intro _; simp [rz] at hn; rw [List.getD_cons_zero]; omega
  have:=key (s.drop (p + 1)) (by rw [pQ]; omega); rw [List.getD_eq_getElem?_getD,List.getElem?_drop] at this; rw [List.getD_eq_getElem?_getD]; omega
 · left; omega
theorem Z9 {c:UInt8} (r:Str) (h:c.toNat≠10):span rz (c :: r)=span rz r + 1:=by
 rw [kX,if_pos]; simp [rz]; omega
theorem O3 (c:UInt8) (r:Str):(ni (c :: r)).1≠5:=by
 simp only [ni]
 repeat' split
 all_goals simp
theorem rY {s:Str} (hs:s.length≤2147483648):∀ (k p nx o:Nat) (out:List av),s.length < k + p→p≤s.length→nx≤s.length→(p < nx→Bd s nx)→out.length≤p→o≤p→
  jc s k out (nx:Int) (o:Int) p=some (fin out (scan (nx - p) p o (GI out) (s.drop p)))
 | 0,p,nx,o,out,h,h',_,_,_,_=>by omega
 | k + 1,p,nx,o,out,h,hp,hnx,hb,hout,ho=>by
  rw [jc]; by_cases hi:p < s.length
  ·
   rw [if_pos (by simpa using hi)]; by_cases hlt:p < nx
   ·
    
    have hst:=Y7 hlt hnx (hb hlt)
    have hpos:1≤(dec s p).2:=by
     rcases Nat.lt_or_ge (s.getD p 0).toNat 128 with hc | hc
     · rw [dec_lt hc]; exact Nat.le_refl _
     · exact (UN hi hc).2.1
    simp (disch:=omega) only [bB,bD,bX,bq,bE,if_pos,if_neg,au,aC,aB,aF,aH,aK,aJ,aI,decide_eq_true_eq,beq_iff_eq,bne_iff_ne,ne_eq,Bool.and_eq_true,Bool.or_eq_true,Bool.not_eq_true',Bool.not_eq_true,decide_eq_false_iff_not,beq_eq_false_iff_ne,bne_eq_false_iff_eq,Int.toNat_add,Int.toNat_natCast,Int.reduceToNat,Int.zero_add,Int.add_zero,Nat.add_zero,Nat.zero_add,Bool.true_and,Bool.and_true,Bool.false_and,Bool.and_false,Bool.true_or,Bool.or_true,Bool.false_or,Bool.or_false,Bool.not_true,Bool.not_false,Bool.false_eq_true,Bool.true_eq_false,reduceCtorEq,not_true_eq_false,not_false_eq_true,if_true,if_false,decide_true,decide_false]; rw [rY hs k (p + (dec s p).2) nx o out (by omega) (by omega) hnx (fun _=>hb hlt) (by omega) (by omega)]; rw [show nx - p=(nx - (p + (dec s p).2)) + (dec s p).2 from by omega,Fz _ _ _ _ _ _ (by rw [pQ]; omega),List.drop_drop]
   ·
    have e0:nx - p=0:=by omega
    rw [e0]; have hh:=getD_drop hi; rcases Nat.lt_or_ge (s.getD p 0).toNat 128 with hc | hc
    ·
     rw [dec_lt hc]; simp (disch:=omega) only [TR,bB,bD,bX,bq,bE,if_pos,if_neg,au,aC,aB,aF,aH,aK,aJ,aI,decide_eq_true_eq,beq_iff_eq,bne_iff_ne,ne_eq,Bool.and_eq_true,Bool.or_eq_true,Bool.not_eq_true',Bool.not_eq_true,decide_eq_false_iff_not,beq_eq_false_iff_ne,bne_eq_false_iff_eq,Int.toNat_add,Int.toNat_natCast,Int.reduceToNat,Int.zero_add,Int.add_zero,Nat.add_zero,Nat.zero_add,Bool.true_and,Bool.and_true,Bool.false_and,Bool.and_false,Bool.true_or,Bool.or_true,Bool.false_or,Bool.or_false,Bool.not_true,Bool.not_false,Bool.false_eq_true,Bool.true_eq_false,reduceCtorEq,not_true_eq_false,not_false_eq_true,if_true,if_false,decide_true,decide_false]; by_cases hbl:(s.getD p 0).toNat=32∨(s.getD p 0).toNat=9
     ·
      have e1:(((s.getD p 0).toNat:Int) == 32 || ((s.getD p 0).toNat:Int) == 9)=true:=by simp only [Bool.or_eq_true,beq_iff_eq]; omega
      simp (disch:=omega) only [e1,bB,bD,bX,bq,bE,if_pos,if_neg,au,aC,aB,aF,aH,aK,aJ,aI,decide_eq_true_eq,beq_iff_eq,bne_iff_ne,ne_eq,Bool.and_eq_true,Bool.or_eq_true,Bool.not_eq_true',Bool.not_eq_true,decide_eq_false_iff_not,beq_eq_false_iff_ne,bne_eq_false_iff_eq,Int.toNat_add,Int.toNat_natCast,Int.reduceToNat,Int.zero_add,Int.add_zero,Nat.add_zero,Nat.zero_add,Bool.true_and,Bool.and_true,Bool.false_and,Bool.and_false,Bool.true_or,Bool.or_true,Bool.false_or,Bool.or_false,Bool.not_true,Bool.not_false,Bool.false_eq_true,Bool.true_eq_false,reduceCtorEq,not_true_eq_false,not_false_eq_true,if_true,if_false,decide_true,decide_false]; rw [rY hs k (p + 1) nx o out (by omega) (by omega) hnx (fun h=>by omega) (by omega) (by omega),hh,show nx - (p + 1)=0 from by omega]; rw [scan,if_pos hbl]
     ·
      have e1:(((s.getD p 0).toNat:Int) == 32 || ((s.getD p 0).toNat:Int) == 9)=false:=by simp only [Bool.or_eq_false_iff,beq_eq_false_iff_ne]; omega
      simp (disch:=omega) only [e1,bB,bD,bX,bq,bE,if_pos,if_neg,au,aC,aB,aF,aH,aK,aJ,aI,decide_eq_true_eq,beq_iff_eq,bne_iff_ne,ne_eq,Bool.and_eq_true,Bool.or_eq_true,Bool.not_eq_true',Bool.not_eq_true,decide_eq_false_iff_not,beq_eq_false_iff_ne,bne_eq_false_iff_eq,Int.toNat_add,Int.toNat_natCast,Int.reduceToNat,Int.zero_add,Int.add_zero,Nat.add_zero,Nat.zero_add,Bool.true_and,Bool.and_true,Bool.false_and,Bool.and_false,Bool.true_or,Bool.or_true,Bool.false_or,Bool.or_false,Bool.not_true,Bool.not_false,Bool.false_eq_true,Bool.true_eq_false,reduceCtorEq,not_true_eq_false,not_false_eq_true,if_true,if_false,decide_true,decide_false]; by_cases Pp:(s.getD p 0).toNat=35
      ·
       simp (disch:=omega) only [K9 ad2 (s:=s) (by omega) hp,bB,bD,bX,bq,bE,if_pos,if_neg,au,aC,aB,aF,aH,aK,aJ,aI,decide_eq_true_eq,beq_iff_eq,bne_iff_ne,ne_eq,Bool.and_eq_true,Bool.or_eq_true,Bool.not_eq_true',Bool.not_eq_true,decide_eq_false_iff_not,beq_eq_false_iff_ne,bne_eq_false_iff_eq,Int.toNat_add,Int.toNat_natCast,Int.reduceToNat,Int.zero_add,Int.add_zero,Nat.add_zero,Nat.zero_add,Bool.true_and,Bool.and_true,Bool.false_and,Bool.and_false,Bool.true_or,Bool.or_true,Bool.false_or,Bool.or_false,Bool.not_true,Bool.not_false,Bool.false_eq_true,Bool.true_eq_false,reduceCtorEq,not_true_eq_false,not_false_eq_true,if_true,if_false,decide_true,decide_false]; obtain ⟨b1,b2⟩:=aeC hi (by omega); rw [hh,Z9 _ (by omega)]; rw [show p + (span rz (s.drop (p + 1)) + 1)=p + 1 + span rz (s.drop (p + 1)) from by omega]; rw [rY hs k (p + 1) _ o out (by omega) (by omega) b1 (fun _=>b2) (by omega) (by omega)]; rw [show p + 1 + span rz (s.drop (p + 1)) - (p + 1)=span rz (s.drop (p + 1)) from by omega]; rw [scan,if_neg hbl,if_pos Pp]
      ·
       by_cases h10:(s.getD p 0).toNat=10
       ·
        simp (disch:=omega) only [bB,bD,bX,bq,bE,if_pos,if_neg,au,aC,aB,aF,aH,aK,aJ,aI,decide_eq_true_eq,beq_iff_eq,bne_iff_ne,ne_eq,Bool.and_eq_true,Bool.or_eq_true,Bool.not_eq_true',Bool.not_eq_true,decide_eq_false_iff_not,beq_eq_false_iff_ne,bne_eq_false_iff_eq,Int.toNat_add,Int.toNat_natCast,Int.reduceToNat,Int.zero_add,Int.add_zero,Nat.add_zero,Nat.zero_add,Bool.true_and,Bool.and_true,Bool.false_and,Bool.and_false,Bool.true_or,Bool.or_true,Bool.false_or,Bool.or_false,Bool.not_true,Bool.not_false,Bool.false_eq_true,Bool.true_eq_false,reduceCtorEq,not_true_eq_false,not_false_eq_true,if_true,if_false,decide_true,decide_false]; rw [Qr out o (by omega),hh,scan,if_neg hbl,if_neg Pp,if_pos h10]; by_cases hn:o=0∧GI out=false
        ·
         have happ:app out [(⟨5,[],(p:Int)⟩:av)]=some (out ++ [⟨5,[],(p:Int)⟩]):=bq (by simp [Gm]; omega); have hd:decide (o=0∧GI out=false)=true:=decide_eq_true hn; simp (disch:=omega) only [hd,happ,bB,bD,bX,bq,bE,if_pos,if_neg,au,aC,aB,aF,aH,aK,aJ,aI,decide_eq_true_eq,beq_iff_eq,bne_iff_ne,ne_eq,Bool.and_eq_true,Bool.or_eq_true,Bool.not_eq_true',Bool.not_eq_true,decide_eq_false_iff_not,beq_eq_false_iff_ne,bne_eq_false_iff_eq,Int.toNat_add,Int.toNat_natCast,Int.reduceToNat,Int.zero_add,Int.add_zero,Nat.add_zero,Nat.zero_add,Bool.true_and,Bool.and_true,Bool.false_and,Bool.and_false,Bool.true_or,Bool.or_true,Bool.false_or,Bool.or_false,Bool.not_true,Bool.not_false,Bool.false_eq_true,Bool.true_eq_false,reduceCtorEq,not_true_eq_false,not_false_eq_true,if_true,if_false,decide_true,decide_false]; rw [rY hs k (p + 1) nx o _ (by omega) (by omega) hnx (fun h=>by omega) (by simp; omega) (by omega),show nx - (p + 1)=0 from by omega,Ey]; rw [EJ]; rfl
        ·
         have hd:decide (o=0∧GI out=false)=false:=decide_eq_false hn; simp (disch:=omega) only [hd,bB,bD,bX,bq,bE,if_pos,if_neg,au,aC,aB,aF,aH,aK,aJ,aI,decide_eq_true_eq,beq_iff_eq,bne_iff_ne,ne_eq,Bool.and_eq_true,Bool.or_eq_true,Bool.not_eq_true',Bool.not_eq_true,decide_eq_false_iff_not,beq_eq_false_iff_ne,bne_eq_false_iff_eq,Int.toNat_add,Int.toNat_natCast,Int.reduceToNat,Int.zero_add,Int.add_zero,Nat.add_zero,Nat.zero_add,Bool.true_and,Bool.and_true,Bool.false_and,Bool.and_false,Bool.true_or,Bool.or_true,Bool.false_or,Bool.or_false,Bool.not_true,Bool.not_false,Bool.false_eq_true,Bool.true_eq_false,reduceCtorEq,not_true_eq_false,not_false_eq_true,if_true,if_false,decide_true,decide_false]; rw [rY hs k (p + 1) nx o out (by omega) (by omega) hnx (fun h=>by omega) (by omega) (by omega),show nx - (p + 1)=0 from by omega]
       ·
        simp (disch:=omega) only [Ph hs hi,bB,bD,bX,bq,bE,if_pos,if_neg,au,aC,aB,aF,aH,aK,aJ,aI,decide_eq_true_eq,beq_iff_eq,bne_iff_ne,ne_eq,Bool.and_eq_true,Bool.or_eq_true,Bool.not_eq_true',Bool.not_eq_true,decide_eq_false_iff_not,beq_eq_false_iff_ne,bne_eq_false_iff_eq,Int.toNat_add,Int.toNat_natCast,Int.reduceToNat,Int.zero_add,Int.add_zero,Nat.add_zero,Nat.zero_add,Bool.true_and,Bool.and_true,Bool.false_and,Bool.and_false,Bool.true_or,Bool.or_true,Bool.false_or,Bool.or_false,Bool.not_true,Bool.not_false,Bool.false_eq_true,Bool.true_eq_false,reduceCtorEq,not_true_eq_false,not_false_eq_true,if_true,if_false,decide_true,decide_false]; rw [hh,scan,if_neg hbl,if_neg Pp,if_neg h10]; by_cases he:(ni (s.getD p 0 :: s.drop (p + 1))).2.2.2=0
        ·
         obtain ⟨n1,n2,n3,n4⟩:=IK he; rw [pQ] at n2; rw [if_pos he]
         have hbd:Bd s (p + (ni (s.getD p 0 :: s.drop (p + 1))).2.2.1):=by
          right; right; refine ⟨by omega,?_⟩; rw [←hh,List.getD_eq_getElem?_getD,List.getElem?_drop] at n3; rw [List.getD_eq_getElem?_getD,←hh]; rw [←hh] at n1; rw [show p + (ni (s.drop p)).2.2.1 - 1=p + ((ni (s.drop p)).2.2.1 - 1) from by omega]; exact n3
         have h5:=O3 (s.getD p 0) (s.drop (p + 1)); generalize ni (s.getD p 0 :: s.drop (p + 1))=t at he n1 n2 hbd h5 ⊢; have happ:app out [(⟨t.1,t.2.1,(p:Int)⟩:av)]=some (out ++ [⟨t.1,t.2.1,(p:Int)⟩]):=bq (by simp [Gm]; omega); have aff:WI t.2.1 o≤o + 1:=by unfold WI; (repeat' split) <;> omega
         have ek:((t.1:Int) == 5)=false:=beq_eq_false_iff_ne.2 h5; simp only [ltk,he,if_true]; simp (disch:=omega) only [bB,bD,bX,bq,bE,if_pos,if_neg,au,aC,aB,aF,aH,aK,aJ,aI,decide_eq_true_eq,beq_iff_eq,bne_iff_ne,ne_eq,Bool.and_eq_true,Bool.or_eq_true,Bool.not_eq_true',Bool.not_eq_true,decide_eq_false_iff_not,beq_eq_false_iff_ne,bne_eq_false_iff_eq,Int.toNat_add,Int.toNat_natCast,Int.reduceToNat,Int.zero_add,Int.add_zero,Nat.add_zero,Nat.zero_add,Bool.true_and,Bool.and_true,Bool.false_and,Bool.and_false,Bool.true_or,Bool.or_true,Bool.false_or,Bool.or_false,Bool.not_true,Bool.not_false,Bool.false_eq_true,Bool.true_eq_false,reduceCtorEq,not_true_eq_false,not_false_eq_true,if_true,if_false,decide_true,decide_false]; by_cases hk:t.1=4
         ·
          simp (disch:=omega) only [hk,TQ _ _ (by omega:o < 4611686018427387904),bB,bD,bX,bq,bE,if_pos,if_neg,au,aC,aB,aF,aH,aK,aJ,aI,decide_eq_true_eq,beq_iff_eq,bne_iff_ne,ne_eq,Bool.and_eq_true,Bool.or_eq_true,Bool.not_eq_true',Bool.not_eq_true,decide_eq_false_iff_not,beq_eq_false_iff_ne,bne_eq_false_iff_eq,Int.toNat_add,Int.toNat_natCast,Int.reduceToNat,Int.zero_add,Int.add_zero,Nat.add_zero,Nat.zero_add,Bool.true_and,Bool.and_true,Bool.false_and,Bool.and_false,Bool.true_or,Bool.or_true,Bool.false_or,Bool.or_false,Bool.not_true,Bool.not_false,Bool.false_eq_true,Bool.true_eq_false,reduceCtorEq,not_true_eq_false,not_false_eq_true,if_true,if_false,decide_true,decide_false]; rw [hk] at happ; simp (disch:=omega) only [happ,bB,bD,bX,bq,bE,if_pos,if_neg,au,aC,aB,aF,aH,aK,aJ,aI,decide_eq_true_eq,beq_iff_eq,bne_iff_ne,ne_eq,Bool.and_eq_true,Bool.or_eq_true,Bool.not_eq_true',Bool.not_eq_true,decide_eq_false_iff_not,beq_eq_false_iff_ne,bne_eq_false_iff_eq,Int.toNat_add,Int.toNat_natCast,Int.reduceToNat,Int.zero_add,Int.add_zero,Nat.add_zero,Nat.zero_add,Bool.true_and,Bool.and_true,Bool.false_and,Bool.and_false,Bool.true_or,Bool.or_true,Bool.false_or,Bool.or_false,Bool.not_true,Bool.not_false,Bool.false_eq_true,Bool.true_eq_false,reduceCtorEq,not_true_eq_false,not_false_eq_true,if_true,if_false,decide_true,decide_false]; rw [rY hs k (p + 1) _ (WI t.2.1 o) _ (by omega) (by omega) (by omega) (fun _=>hbd) (by simp; omega) (by omega),Ey,EJ]; rw [show p + t.2.2.1 - (p + 1)=t.2.2.1 - 1 from by omega]
          rfl
         ·
          simp (disch:=omega) only [hk,happ,bB,bD,bX,bq,bE,if_pos,if_neg,au,aC,aB,aF,aH,aK,aJ,aI,decide_eq_true_eq,beq_iff_eq,bne_iff_ne,ne_eq,Bool.and_eq_true,Bool.or_eq_true,Bool.not_eq_true',Bool.not_eq_true,decide_eq_false_iff_not,beq_eq_false_iff_ne,bne_eq_false_iff_eq,Int.toNat_add,Int.toNat_natCast,Int.reduceToNat,Int.zero_add,Int.add_zero,Nat.add_zero,Nat.zero_add,Bool.true_and,Bool.and_true,Bool.false_and,Bool.and_false,Bool.true_or,Bool.or_true,Bool.false_or,Bool.or_false,Bool.not_true,Bool.not_false,Bool.false_eq_true,Bool.true_eq_false,reduceCtorEq,not_true_eq_false,not_false_eq_true,if_true,if_false,decide_true,decide_false]; rw [rY hs k (p + 1) _ o _ (by omega) (by omega) (by omega) (fun _=>hbd) (by simp; omega) (by omega),Ey,EJ]; rw [show p + t.2.2.1 - (p + 1)=t.2.2.1 - 1 from by omega]; rw [ek]
        ·
         rw [if_neg he]; simp only [ltk,he,if_false]; simp (disch:=omega) only [he,bB,bD,bX,bq,bE,if_pos,if_neg,au,aC,aB,aF,aH,aK,aJ,aI,decide_eq_true_eq,beq_iff_eq,bne_iff_ne,ne_eq,Bool.and_eq_true,Bool.or_eq_true,Bool.not_eq_true',Bool.not_eq_true,decide_eq_false_iff_not,beq_eq_false_iff_ne,bne_eq_false_iff_eq,Int.toNat_add,Int.toNat_natCast,Int.reduceToNat,Int.zero_add,Int.add_zero,Nat.add_zero,Nat.zero_add,Bool.true_and,Bool.and_true,Bool.false_and,Bool.and_false,Bool.true_or,Bool.or_true,Bool.false_or,Bool.or_false,Bool.not_true,Bool.not_false,Bool.false_eq_true,Bool.true_eq_false,reduceCtorEq,not_true_eq_false,not_false_eq_true,if_true,if_false,decide_true,decide_false]; rfl
    ·
     
     obtain ⟨g1,_⟩:=UN hi hc; have e1:(((dec s p).1:Int) == 32 || ((dec s p).1:Int) == 9)=false:=by simp only [Bool.or_eq_false_iff,beq_eq_false_iff_ne]; omega
     have he:(ni (s.getD p 0 :: s.drop (p + 1))).2.2.2≠0:=fun he=>by have:=(IK he).2.2.2; omega
     simp (disch:=omega) only [TR,e1,Ph hs hi,bB,bD,bX,bq,bE,if_pos,if_neg,au,aC,aB,aF,aH,aK,aJ,aI,decide_eq_true_eq,beq_iff_eq,bne_iff_ne,ne_eq,Bool.and_eq_true,Bool.or_eq_true,Bool.not_eq_true',Bool.not_eq_true,decide_eq_false_iff_not,beq_eq_false_iff_ne,bne_eq_false_iff_eq,Int.toNat_add,Int.toNat_natCast,Int.reduceToNat,Int.zero_add,Int.add_zero,Nat.add_zero,Nat.zero_add,Bool.true_and,Bool.and_true,Bool.false_and,Bool.and_false,Bool.true_or,Bool.or_true,Bool.false_or,Bool.or_false,Bool.not_true,Bool.not_false,Bool.false_eq_true,Bool.true_eq_false,reduceCtorEq,not_true_eq_false,not_false_eq_true,if_true,if_false,decide_true,decide_false]; rw [hh,scan,if_neg (by omega),if_neg (by omega),if_neg (by omega),if_neg he]; simp only [ltk,he,if_false]; simp (disch:=omega) only [he,bB,bD,bX,bq,bE,if_pos,if_neg,au,aC,aB,aF,aH,aK,aJ,aI,decide_eq_true_eq,beq_iff_eq,bne_iff_ne,ne_eq,Bool.and_eq_true,Bool.or_eq_true,Bool.not_eq_true',Bool.not_eq_true,decide_eq_false_iff_not,beq_eq_false_iff_ne,bne_eq_false_iff_eq,Int.toNat_add,Int.toNat_natCast,Int.reduceToNat,Int.zero_add,Int.add_zero,Nat.add_zero,Nat.zero_add,Bool.true_and,Bool.and_true,Bool.false_and,Bool.and_false,Bool.true_or,Bool.or_true,Bool.false_or,Bool.or_false,Bool.not_true,Bool.not_false,Bool.false_eq_true,Bool.true_eq_false,reduceCtorEq,not_true_eq_false,not_false_eq_true,if_true,if_false,decide_true,decide_false]; rfl
  ·
   have e:p=s.length:=by omega
   subst e; rw [if_neg (by simp)]; rw [List.drop_eq_nil_of_le (Nat.le_refl _)]; cases hz:nx - s.length <;> simp [scan,fin]
end Go.Ft
namespace Go.Ft
open Go
attribute [local congr] jQ
theorem Mj {s:Str} (hs:s.length≤65536):mW s=some (fin [] (scan 0 0 0 false s)):=by
 unfold mW; rw [if_neg (by simp; omega)]; have:=rY (s:=s) (by omega) BIG 0 0 0 [] (by simp only [BIG]; omega) (by omega) (by omega) (fun h=>by omega) (by simp) (by omega); exact this
def NR :Bool→Str→Nat
 | _,[]=>0
 | cm,c :: r=>if c.toNat≠10∧(cm=true∨c.toNat=32∨c.toNat=9∨c.toNat=35) then NR (cm || c.toNat == 35) r + 1 else 0
theorem UE :∀ (cm:Bool) (l:Str),NR cm l≤l.length
 | _,[]=>Nat.le_refl 0
 | cm,c :: r=>by
  rw [NR]; split
  · have:=UE (cm || c.toNat == 35) r; simp only [List.length_cons]; omega
  · exact Nat.zero_le _
theorem ME {s:Str} (hs:s.length≤2147483648):∀ (k i:Nat) (cm:Bool),s.length < k + i→i≤s.length→
  nD s k (i:Int) cm=some ((i + NR cm (s.drop i):Nat):Int)
 | 0,i,cm,h,h'=>by omega
 | k + 1,i,cm,h,h'=>by
  rw [nD]; by_cases hi:i < s.length
  ·
   have hh:=getD_drop hi
   have hx:idx s (i:Int)=some (s.getD i 0):=by
    rw [Je hi,List.getD_eq_getElem?_getD,List.getElem?_eq_getElem hi]; rfl
   rw [hh,NR]; have hc:(decide ((i:Int) < (s.length:Int)))=true:=by simp; omega
   simp only [hc,if_true,hx,au]; generalize s.getD i 0=c; by_cases h10:c.toNat=10
   ·
    have e:((c.toNat:Int) != 10)=false:=by simp; omega
    simp [e,h10]
   ·
    have e:((c.toNat:Int) != 10)=true:=by simp; omega
    have e35:((c.toNat:Int) == 35)=(c.toNat == 35):=by
     by_cases h:c.toNat=35
     · simp [h]
     ·
      have h2:¬ (c.toNat:Int)=35:=by omega
      rw [beq_eq_false_iff_ne.2 h,beq_eq_false_iff_ne.2 h2]
    have go:∀ cm',nD s k (bV ((i:Int) + 1)) cm'=some ((i + (NR cm' (s.drop (i + 1)) + 1):Nat):Int):=by
     intro cm'; rw [bB (by omega) (by omega)]; have:=ME hs k (i + 1) cm' (by omega) (by omega); rw [show (i:Int) + 1=((i + 1:Nat):Int) from by omega,this]; congr 2; omega
    simp only [e,if_true,e35,h10,ne_eq,not_false_eq_true,true_and]; cases cm with
    | true=>simp [go]
    | false=>
     by_cases h32:c.toNat=32
     ·
      have h2:(c.toNat == 35)=false:=by simp [h32]
      simp [h32,go]
     ·
      have afr:((c.toNat:Int) == 32)=false:=by simp; omega
      by_cases h9:c.toNat=9
      · simp [h9,go]
      ·
       have h9':((c.toNat:Int) == 9)=false:=by simp; omega
       simp only [afr,h9',Bool.false_eq_true,if_false,au,h32,h9,false_or,Bool.false_or]; cases hb:(c.toNat == 35) with
       | true=>simp [go]; simp at hb; simp [hb]
       | false=>simp at hb; simp [hb]
  ·
   have hc:(decide ((i:Int) < (s.length:Int)))=false:=by simp; omega
   rw [List.drop_eq_nil_of_le (by omega)]; simp only [hc,Bool.false_eq_true,if_false,au,NR,Nat.add_zero]
theorem MC {s:Str} (hs:s.length≤65536) {i:Nat} (h:i≤s.length):ou s (i:Int)=some ((i + NR false (s.drop i):Nat):Int):=
 ME (by omega) BIG i false (by simp only [BIG]; omega) h
theorem YQ (l:Str):NR true l=span rz l:=by
 induction l with
 | nil=>rfl
 | cons c r ih=>
  rw [NR,kX]; by_cases h:c.toNat=10
  · simp [h,rz]
  ·
   have:¬ (c.toNat:Int)=10:=by omega
   simp [h,rz,this,ih]
theorem MF :∀ (l:Str) (cm:Bool),NR false (l.drop (NR cm l))=0
 | [],cm=>by cases cm <;> rfl
 | c :: r,cm=>by
  rw [NR]; split
  · rw [List.drop_succ_cons]; exact MF r _
  ·
   rename_i h; rw [List.drop_zero,NR,if_neg]; intro h2; apply h; exact ⟨h2.1,by cases h2.2 with | inl h=>cases h | inr h=>exact Or.inr h⟩
theorem LB :∀ (l:Str) (p o:Nat) (nl:Bool),scan 0 p o nl l=scan 0 (p + NR false l) o nl (l.drop (NR false l))
 | [],p,o,nl=>rfl
 | c :: r,p,o,nl=>by
  rw [NR]; split
  ·
   rename_i h; by_cases Pp:c.toNat=35
   ·
    rw [scan,if_neg (by omega),if_pos Pp,List.drop_succ_cons]; simp only [Pp,beq_self_eq_true,Bool.or_true]; rw [YQ]; have:=Fz (span rz r) 0 (p + 1) o nl r (yH _ _); rw [Nat.zero_add] at this; rw [this]; rw [show p + 1 + span rz r=p + (span rz r + 1) from by omega]
   ·
    have hb:(c.toNat == 35)=false:=by simp [Pp]
    rw [scan,if_pos (by obtain ⟨_,h⟩:=h; rcases h with h | h | h | h <;> simp_all),List.drop_succ_cons,hb]; rw [LB r]; simp only [Bool.or_false]; rw [show p + 1 + NR false r=p + (NR false r + 1) from by omega]
  · rfl
theorem Oa (out:List av) (o:Nat) (h:out.length < 4611686018427387904):
  (if ((o:Int) == 0)=true then if ((out.length:Int) == 0)=true then some true else ay (idx out (bV ((out.length:Int) - 1))) fun e1=>some (e1.kind != 5) else some false)=some (decide (o=0∧GI out=false)):=by
 by_cases ho:o=0
 ·
  subst ho; by_cases he:out=[]
  · subst he; simp [GI]
  ·
   have hl:0 < out.length:=List.length_pos_iff.2 he; have hl2:¬ ((out.length:Int)=0):=by omega
   have h1:=Pn out he; rw [dif_pos h] at h1; rw [h1]; simp [hl2,GI,List.getLast?_eq_some_getLast he]; cases hk:(out.getLast he).kind == 5 <;> simp_all
 ·
  have:¬ (o:Int)=0:=by omega
  simp [ho,this]
theorem LD {s:Str} (hs:s.length≤65536):∀ (k p o:Nat) (out:List av),s.length < k + p→p≤s.length→NR false (s.drop p)=0→out.length≤p→o≤p→
  kK s k out (o:Int) (p:Int)=some (fin out (scan 0 p o (GI out) (s.drop p)))
 | 0,p,o,out,h,h',_,_,_=>by omega
 | k + 1,p,o,out,h,hp,hg,hout,ho=>by
  rw [kK]; by_cases hi:p < s.length
  ·
   have hh:=getD_drop hi
   have hx:idx s (p:Int)=some (s.getD p 0):=by
    rw [Je hi,List.getD_eq_getElem?_getD,List.getElem?_eq_getElem hi]; rfl
   have hc:(decide ((p:Int) < (s.length:Int)))=true:=by simp; omega
   have step:∀ (q:Nat) (o':Nat) (out':List av),p < q→q≤s.length→out'.length≤q→o'≤q→
     ay (ou s (q:Int)) (fun at3=>kK s k out' (o':Int) at3)=some (fin out' (scan 0 q o' (GI out') (s.drop q))):=by
    intro q o' out' h1 h2 h3 h4; have hle:=UE false (s.drop q); rw [pQ] at hle; rw [MC hs h2,au]; rw [LD hs k (q + NR false (s.drop q)) o' out' (by omega) (by omega) (by rw [←List.drop_drop]; exact MF _ _) (by omega) (by omega)]; rw [LB (s.drop q),List.drop_drop]
   rw [hh,NR] at hg; simp only [hc,if_true,hx,au]; by_cases h10:(s.getD p 0).toNat=10
   ·
    have e:(((s.getD p 0).toNat:Int) != 10)=false:=bne_eq_false_iff_eq.2 (by omega); have e5:((5:Int) != 5)=false:=rfl
    have eop:qh (o:Int) (⟨5,[],(p:Int)⟩:av)=some (o:Int):=by
     rw [Pe _ _ (by omega)]; simp
    simp only [e,e5,Bool.false_eq_true,if_false,eop,au]; rw [Oa out o (by omega),au]
    conv=>rhs; rw [hh,scan,if_neg (by omega),if_neg (by omega),if_pos h10]
    have w1:bV ((p:Int) + 1)=((p + 1:Nat):Int):=by rw [bB (by omega) (by omega)]; omega
    by_cases hn:o=0∧GI out=false
    ·
     have happ:app out [(⟨5,[],(p:Int)⟩:av)]=some (out ++ [⟨5,[],(p:Int)⟩]):=bq (by simp [Gm]; omega); rw [decide_eq_true hn,if_pos rfl,happ,au,w1]; rw [step (p + 1) o _ (by omega) (by omega) (by simp; omega) (by omega),Ey,if_pos hn,EJ]; rfl
    ·
     rw [decide_eq_false hn,if_neg Bool.false_ne_true,w1]; rw [step (p + 1) o _ (by omega) (by omega) (by omega) (by omega),if_neg hn]
   ·
    have e:(((s.getD p 0).toNat:Int) != 10)=true:=bne_iff_ne.2 (by omega); simp only [e,if_true]
    have hbl:¬ ((s.getD p 0).toNat=32∨(s.getD p 0).toNat=9):=fun h=>by
     rw [if_pos ⟨h10,by omega⟩] at hg; omega
    have Pp:¬ (s.getD p 0).toNat=35:=fun h=>by
     rw [if_pos ⟨h10,by omega⟩] at hg; omega
    rw [Wm (by omega) hi,hh,scan,if_neg hbl,if_neg Pp,if_neg h10]; by_cases he:(ni (s.getD p 0 :: s.drop (p + 1))).2.2.2=0
    ·
     obtain ⟨n1,n2,n3,n4⟩:=IK he; have h5:=O3 (s.getD p 0) (s.drop (p + 1)); rw [pQ] at n2; rw [if_pos he]; generalize ni (s.getD p 0 :: s.drop (p + 1))=t at he n1 n2 h5 ⊢; have happ:app out [(⟨t.1,t.2.1,(p:Int)⟩:av)]=some (out ++ [⟨t.1,t.2.1,(p:Int)⟩]):=bq (by simp [Gm]; omega); have aff:WI t.2.1 o≤o + 1:=by unfold WI; (repeat' split) <;> omega
     have ek:((t.1:Int) == 5)=false:=beq_eq_false_iff_ne.2 h5; have ek2:((t.1:Int) != 5)=true:=bne_iff_ne.2 h5; have w1:bV ((p:Int) + (t.2.2.1:Int))=((p + t.2.2.1:Nat):Int):=by rw [bB (by omega) (by omega)]; omega
     simp only [rtk,he,if_true,aB,ek2,au,happ,Pe _ _ (by omega:o < 4611686018427387904),w1]; have e00:((0:Int) != 0)=false:=rfl; simp only [e00,Bool.false_eq_true,if_false]; rw [step (p + t.2.2.1) _ _ (by omega) (by omega) (by simp; omega) (by split <;> omega),Ey,EJ,ek]; have hsk:=Fz (t.2.2.1 - 1) 0 (p + 1) (if t.1=4 then WI t.2.1 o else o) false (s.drop (p + 1)) (by rw [pQ]; omega); rw [Nat.zero_add] at hsk; rw [hsk,List.drop_drop,show p + 1 + (t.2.2.1 - 1)=p + t.2.2.1 from by omega]
    ·
     rw [if_neg he]; have e00:((ni (s.getD p 0 :: s.drop (p + 1))).2.2.2 != 0)=true:=bne_iff_ne.2 he; simp only [rtk,he,if_false,aB,e00,if_true]; rfl
  ·
   have e:p=s.length:=by omega
   subst e; rw [List.drop_eq_nil_of_le (Nat.le_refl _)]; simp [scan,fin]
theorem Ul {s:Str} (hs:s.length≤65536):rU s=some (fin [] (scan 0 0 0 false s)):=by
 unfold rU; rw [if_neg (by simp; omega),show (0:Int)=((0:Nat):Int) from rfl,MC hs (Nat.zero_le _),au]; have hle:=UE false (s.drop 0); rw [pQ] at hle; rw [LD hs BIG _ 0 [] (by simp only [BIG]; omega) (by omega) (by rw [←List.drop_drop]; exact MF _ _) (by simp) (by omega)]; rw [←List.drop_drop,List.drop_zero]; have:=LB s 0 0 false; rw [this]; rfl
theorem RS (s:Str):rU s=mW s:=by
 rcases Nat.lt_or_ge 65536 s.length with h | h
 · unfold rU mW; rw [if_pos (by simp; omega),if_pos (by simp; omega)]
 · rw [Mj h,Ul h]
theorem LA :∀ (l:Str) (k p o:Nat) (nl:Bool),(scan k p o nl l).1.length≤l.length
 | [],k,p,o,nl=>by cases k <;> simp [scan]
 | c :: r,k + 1,p,o,nl=>by rw [scan]; have:=LA r k (p + 1) o nl; simp only [List.length_cons]; omega
 | c :: r,0,p,o,nl=>by
  have h1:=LA r; rw [scan]
  repeat' split
  all_goals simp only [List.length_cons,List.length_nil]
  all_goals first | omega | (have:=h1 0 (p + 1) o nl; omega) | (have:=h1 0 (p + 1) o true; omega) | (have:=h1 (span rz r) (p + 1) o nl; omega) | skip
  all_goals (have:=h1 ((ni (c :: r)).2.2.1 - 1) (p + 1) (if (ni (c :: r)).1=4 then WI (ni (c :: r)).2.1 o else o) false; simp_all)
theorem aax (l:Str):(fin [] (scan 0 0 0 false l)).1.length≤l.length:=by
 have:=LA l 0 0 0 false; unfold fin; split <;> simp_all
end Go.Ft
namespace Go.Ft
open Go
attribute [local congr] jQ
theorem Uh :∀ (r:Str) (k:Nat) (b:Str) (n:Nat),(txt k b n r).1.length≤4096
 | [],k,b,n=>by cases k <;> simp [txt]
 | c :: r,k + 1,b,n=>by rw [txt]; exact Uh r k b n
 | c :: r,0,b,n=>by
  rw [txt]; split
  ·
   split
   · simp
   · simp only; omega
  ·
   split
   · exact Uh r _ _ _
   · simp
theorem ZW :∀ l:Str,(ni l).2.1.length≤l.length + 4096
 | []=>by simp [ni]
 | c :: r=>by
  have:=Uh r 0 [] 1; unfold ni; simp only
  repeat' split
  all_goals simp only [List.length_nil,List.length_take]
  all_goals omega
theorem IY :∀ (l:Str) (k p o:Nat) (nl:Bool),∀ t∈(scan k p o nl l).1,t.text.length≤l.length + 4096
 | [],k,p,o,nl,t,ht=>by cases k <;> simp [scan] at ht
 | c :: r,k + 1,p,o,nl,t,ht=>by rw [scan] at ht; have:=IY r k (p + 1) o nl t ht; simp only [List.length_cons]; omega
 | c :: r,0,p,o,nl,t,ht=>by
  have h1:=IY r; have h2:=ZW (c :: r); simp only [List.length_cons] at h2 ⊢; rw [scan] at ht; split at ht
  · have:=h1 _ _ _ _ t ht; omega
  ·
   split at ht
   · have:=h1 _ _ _ _ t ht; omega
   ·
    split at ht
    ·
     split at ht
     ·
      simp only [List.mem_cons] at ht; rcases ht with rfl | ht
      · simp
      · have:=h1 _ _ _ _ t ht; omega
     · have:=h1 _ _ _ _ t ht; omega
    ·
     split at ht
     ·
      simp only [List.mem_cons] at ht; rcases ht with rfl | ht
      · exact h2
      · have:=h1 _ _ _ _ t ht; omega
     · simp at ht
theorem toks (s:Str):∃ ts a e,mW s=some (ts,a,e)∧rU s=some (ts,a,e)∧yX ts:=by
 rw [RS]; rcases Nat.lt_or_ge 65536 s.length with h | h
 ·
  unfold mW; rw [if_pos (by simp; omega)]; exact ⟨_,_,_,rfl,rfl,by simp [yX]⟩
 ·
  rw [Mj h]; have hl:=aax s; refine ⟨(fin [] (scan 0 0 0 false s)).1,(fin [] (scan 0 0 0 false s)).2.1,(fin [] (scan 0 0 0 false s)).2.2,rfl,rfl,by omega,fun t ht=>?_⟩
  have hm:t∈(scan 0 0 0 false s).1:=by
   unfold fin at ht; split at ht
   · simpa using ht
   · simp at ht
  have:=IY s 0 0 0 false t hm; omega
def zeroE :ah:=ah.mk 0 ([]:Str) (ak.mk 0 false 0 ([]:Str) [] []) [] []
theorem ZY {ts:List av} (h:yX ts):∃ (e:ah) (j:Nat) (c:Int),xL ts=some (e,(j:Int),c)∧Em ts=some (e,(j:Int),c)∧j≤ts.length∧(c=0→xval e=0∧e.bulk≤137438953472)∧(c≠0→e=zeroE):=by
 have hN:=h.1; unfold xL Em Av; rcases Y_ h with ⟨e,j,g1,g2,gb,gP,gR⟩ | ⟨j,c,x,g1,g2,gc,gP,gR⟩
 ·
  have hbk:e.bulk≤137438953472:=by omega
  obtain ⟨v1,v2⟩:=ZP (e:=e) (by omega); rw [gP,gR,ig,aB,aB]; simp only [Ob,Bool.false_eq_true,if_false]; rw [v1,v2,au]; by_cases hv:xval e=0
  ·
   rw [if_neg (by simpa using hv)]; exact ⟨e,j,0,rfl,rfl,g2,fun _=>⟨hv,hbk⟩,fun h=>absurd rfl h⟩
  ·
   rw [if_pos (by simpa using hv)]; exact ⟨zeroE,0,xval e,rfl,rfl,Nat.zero_le _,fun h=>absurd h hv,fun _=>rfl⟩
 ·
  rw [gP,gR,fJ,aB,aB]; simp only [Md gc,if_true]; exact ⟨zeroE,j,c,rfl,rfl,g2,fun h=>absurd h gc,fun _=>rfl⟩
theorem Yv (s:Str):∃ (e:ah) (a c:Int),vV s=some (e,a,c)∧BL s=some (e,a,c)∧(c=0→xval e=0∧e.bulk≤137438953472):=by
 obtain ⟨ts,a,c,l1,l2,hts⟩:=toks s; unfold vV BL; rw [l1,l2,aB,aB]; by_cases hc:c=0
 ·
  subst hc; simp only [Ob,Bool.false_eq_true,if_false]; obtain ⟨e,j,c,t1,t2,hj,t3,t4⟩:=ZY hts; rw [t1,t2,aB,aB]; by_cases hc:c=0
  ·
   subst hc; have e0:((0:Int) == 0)=true:=rfl; simp only [Ob,e0,Bool.true_and,Bool.false_eq_true,if_false,if_true]; by_cases hlt:j < ts.length
   ·
    have e1:decide ((j:Int) < (ts.length:Int))=true:=decide_eq_true (by omega); have e2:((j:Int) == (ts.length:Int))=false:=by rw [beq_eq_false_iff_ne]; omega
    simp only [e1,e2,if_true,Bool.false_eq_true,if_false,o7 hlt,au]; exact ⟨_,_,_,rfl,rfl,fun h=>by cases h⟩
   ·
    have e1:decide ((j:Int) < (ts.length:Int))=false:=decide_eq_false (by omega); have e2:((j:Int) == (ts.length:Int))=true:=by rw [beq_iff_eq]; omega
    simp only [e1,e2,if_true,Bool.false_eq_true,if_false]; exact ⟨e,0,0,rfl,rfl,t3⟩
  ·
   have e0:(c == 0)=false:=by simpa using hc
   simp only [Md hc,e0,Bool.false_and,Bool.false_eq_true,if_false,if_true,yK]; by_cases hlt:j < ts.length
   ·
    have e1:decide ((j:Int) < (ts.length:Int))=true:=decide_eq_true (by omega); simp only [e1,if_true,o7 hlt,au]; exact ⟨_,_,_,rfl,rfl,fun h=>absurd h hc⟩
   ·
    have e1:decide ((j:Int) < (ts.length:Int))=false:=decide_eq_false (by omega); simp only [e1,Bool.false_eq_true,if_false,au]; exact ⟨_,_,_,rfl,rfl,fun h=>absurd h hc⟩
 ·
  simp only [Md hc,if_true]; exact ⟨_,_,_,rfl,rfl,fun h=>absurd h hc⟩
end Go.Ft
namespace Go.Ft
open Go
attribute [local congr] jQ
theorem aeT {i:Nat} (h:i < 4611686018427387000):bV (bV ((i:Int) + 1) + 1)=((i + 2:Nat):Int):=by rw [nW (by omega)]; exact nW (i:=i + 1) (by omega)
theorem Qi {s:Str} (hs:s.length≤65536):∀ (n i k k':Nat),s.length + 2≤n + i→i≤s.length + 1→n < k→n < k'→
  ∃ a b:Nat,lM s k (i:Int)=some (a:Int)∧oV s k' (i:Int)=some (b:Int)∧((a=b∧i < a∧a≤s.length)∨(a=s.length∧s.length < b∧b≤s.length + 3))
 | n,i,0,k',_,_,h,_=>by omega
 | n,i,k + 1,0,_,_,_,h=>by omega
 | 0,i,k + 1,k' + 1,h1,h2,_,_=>by omega
 | n + 1,i,k + 1,k' + 1,h1,h2,h3,h4=>by
  rw [lM,oV]; by_cases hi:i < s.length
  ·
   have e1:decide ((i:Int) < (s.length:Int))=true:=decide_eq_true (by omega); simp only [e1,if_true,o7 hi,au]; generalize s[i]=c; by_cases c92:c.toNat=92
   ·
    have e2:((c.toNat:Int) == 92)=true:=by rw [beq_iff_eq]; omega
    have e3:((c.toNat:Int) != 34)=true:=by rw [bne_iff_ne]; omega
    simp only [e2,e3,if_true]; rw [aeT (by omega)]; obtain ⟨a,b,q1,q2,q3⟩:=Qi hs n (i + 2) k k' (by omega) (by omega) (by omega) (by omega); exact ⟨a,b,q1,q2,by omega⟩
   ·
    have e2:((c.toNat:Int) == 92)=false:=by rw [beq_eq_false_iff_ne]; omega
    by_cases c34:c.toNat=34
    ·
     have e3:((c.toNat:Int) == 34)=true:=by rw [beq_iff_eq]; omega
     have e4:((c.toNat:Int) != 34)=false:=by rw [bne_eq_false_iff_eq]; omega
     simp only [e2,e3,e4,if_true,Bool.false_eq_true,if_false]; exact ⟨i + 1,i + 1,by rw [nW (by omega)],by rw [nW (by omega)],.inl ⟨rfl,by omega,by omega⟩⟩
    ·
     have e3:((c.toNat:Int) == 34)=false:=by rw [beq_eq_false_iff_ne]; omega
     have e4:((c.toNat:Int) != 34)=true:=by rw [bne_iff_ne]; omega
     simp only [e2,e3,e4,if_true,Bool.false_eq_true,if_false]; rw [nW (by omega)]; obtain ⟨a,b,q1,q2,q3⟩:=Qi hs n (i + 1) k k' (by omega) (by omega) (by omega) (by omega); exact ⟨a,b,q1,q2,by omega⟩
  ·
   have e1:decide ((i:Int) < (s.length:Int))=false:=decide_eq_false (by omega); simp only [e1,Bool.false_eq_true,if_false,au]; exact ⟨s.length,i + 1,rfl,by rw [nW (by omega)],.inr ⟨rfl,by omega,by omega⟩⟩
theorem Js {s:Str} (hs:s.length≤65536):∀ (n i k k':Nat) (o:Int),s.length + 1≤n + i→n < k→n < k'→i≤s.length + 4→
  ∃ r:Int,iB s k (i:Int) o=some r∧jq s k' (i:Int) o=some r∧(r=-1∨∃ j:Nat,r=j∧i≤j∧j < s.length)
 | n,i,0,k',o,_,h,_,_=>by omega
 | n,i,k + 1,0,o,_,_,h,_=>by omega
 | n,i,k + 1,k' + 1,o,h1,h3,h4,h5=>by
  rw [iB,jq]; by_cases hi:i < s.length
  ·
   obtain ⟨n,rfl⟩:∃ m,n=m + 1:=⟨n - 1,by omega⟩; have e1:decide ((i:Int) < (s.length:Int))=true:=decide_eq_true (by omega); simp only [e1,if_true,o7 hi,au]; generalize s[i]=c; have w1:bV ((i:Int) + 1)=((i + 1:Nat):Int):=nW (by omega)
   have next:∀ o:Int,∃ r:Int,iB s k (bV ((i:Int) + 1)) o=some r∧jq s k' (bV ((i:Int) + 1)) o=some r∧(r=-1∨∃ j:Nat,r=j∧i≤j∧j < s.length):=fun o=>by
    rw [w1]; obtain ⟨r,q1,q2,q3⟩:=Js hs n (i + 1) k k' o (by omega) (by omega) (by omega) (by omega); refine ⟨r,q1,q2,?_⟩; rcases q3 with q3 | ⟨j,q3,q4,q5⟩
    · exact .inl q3
    · exact .inr ⟨j,q3,by omega,q5⟩
   by_cases c34:((c.toNat:Int) == 34)=true
   ·
    simp only [c34,if_true,w_,Cx]; rw [w1]; have hB:=mg; obtain ⟨a,b,q1,q2,q3⟩:=Qi hs (s.length + 2) (i + 1) BIG BIG (by omega) (by omega) (by omega) (by omega); rw [q1,q2,au,au]; rcases q3 with ⟨q3,q4,q5⟩ | ⟨q3,q4,q5⟩
    ·
     subst q3; obtain ⟨r,p1,p2,p3⟩:=Js hs n a k k' o (by omega) (by omega) (by omega) (by omega); refine ⟨r,p1,p2,?_⟩; rcases p3 with p3 | ⟨j,p3,p4,p5⟩
     · exact .inl p3
     · exact .inr ⟨j,p3,by omega,p5⟩
    ·
     obtain ⟨k,rfl⟩:∃ q,k=q + 1:=⟨k - 1,by omega⟩; obtain ⟨k',rfl⟩:∃ q,k'=q + 1:=⟨k' - 1,by omega⟩; rw [iB,jq,if_neg (by simp; omega),if_neg (by simp; omega)]; exact ⟨-1,rfl,rfl,.inl rfl⟩
   ·
    have c34:((c.toNat:Int) == 34)=false:=by simpa using c34
    simp only [c34,Bool.false_eq_true,if_false]; by_cases aaH:((c.toNat:Int) == 123)=true
    · simp only [aaH,if_true]; exact next _
    ·
     have aaH:((c.toNat:Int) == 123)=false:=by simpa using aaH
     simp only [aaH,Bool.false_eq_true,if_false]; by_cases aaG:((c.toNat:Int) == 125)=true
     ·
      simp only [aaG,if_true]; by_cases ho:(o == 0)=true
      ·
       simp only [ho,if_true]; exact ⟨i,rfl,rfl,.inr ⟨i,rfl,Nat.le_refl _,hi⟩⟩
      ·
       have ho:(o == 0)=false:=by simpa using ho
       simp only [ho,Bool.false_eq_true,if_false]; exact next _
     ·
      have aaG:((c.toNat:Int) == 125)=false:=by simpa using aaG
      simp only [aaG,Bool.false_eq_true,if_false]; exact next _
  ·
   have e1:decide ((i:Int) < (s.length:Int))=false:=decide_eq_false (by omega); simp only [e1,Bool.false_eq_true,if_false]; exact ⟨-1,rfl,rfl,.inl rfl⟩
theorem Zd {s:Str} (hs:s.length≤65536) {i:Nat} (hi:i≤s.length + 4):∃ r:Int,wo s (i:Int)=some r∧Ai s (i:Int)=some r∧(r=-1∨∃ j:Nat,r=j∧i≤j∧j < s.length):=by
 have hB:=mg; exact Js hs (s.length + 1) i BIG BIG 0 (by omega) (by omega) (by omega) hi
end Go.Ft
namespace Go.Ft
open Go
attribute [local congr] jQ
def RP (t:Str):aM:=aM.mk t false zeroE
def Ej (ps:List aM) (t:Str):List aM:=if t=[] then ps else ps ++ [RP t]
def VL (ps:List aM):Prop:=ps=[]∨∃ l p,ps=l ++ [p]∧p.Oh=true
theorem SQ {ps:List aM} {t:Str} (hp:ps.length≤1048576):kE ps t=some (Ej ps t):=by
 have hL:Gm=4294967296:=rfl; unfold kE Ej; cases t with
 | nil=>rfl
 | cons c r=>
  rw [if_pos (decide_eq_true (by simp only [List.length_cons]; omega)),if_neg (by simp),bq (by simp; omega)]; rfl
theorem XM {ps:List aM} {t:Str} (hc:VL ps) (hp:ps.length≤1048576) (ht:t.length≤1048576) (c:UInt8):zD (Ej ps t) c=some (Ej ps (t ++ [c])):=by
 have hL:Gm=4294967296:=rfl; unfold zD; cases t with
 | nil=>
  have hr:Ej ps []=ps:=rfl; rw [hr,if_pos (by omega)]
  have h1:(((ps.length:Int) == 0) || uQ ps)=true:=by
   rcases hc with rfl | ⟨l,p,rfl,hpi⟩
   · rfl
   · simp [uQ,hpi]
  rw [if_pos h1,bq (by simp; omega)]; rfl
 | cons d r=>
  have hr:Ej ps (d :: r)=ps ++ [RP (d :: r)]:=rfl; have hr2:Ej ps ((d :: r) ++ [c])=ps ++ [RP ((d :: r) ++ [c])]:=rfl; simp only [List.length_cons] at ht; rw [hr,hr2,if_pos (by simp; omega),if_neg (by simp [uQ,RP]; omega)]; have e1:vJ (ps ++ [RP (d :: r)])=d :: r:=by simp [vJ,RP]
  rw [e1,bq (by simp; omega),au]; simp [Ah,RP]
theorem adD (s:Str) (i:Nat) (hi:i < s.length) (hs:s.length≤1048576) (a b:UInt8):strings_HasPrefix (s.drop i) [a,b]=some ((s[i] == a) && (s[i + 1]? == some b)):=by
 unfold strings_HasPrefix mD; rw [List.drop_eq_getElem_cons hi]; by_cases h1:i + 1 < s.length
 ·
  rw [List.drop_eq_getElem_cons h1,List.getElem?_eq_getElem h1]; rw [if_pos (decide_eq_true (by simp only [List.length_cons,List.length_nil]; omega))]
  have e:sl (s[i] :: s[i + 1] :: s.drop (i + 1 + 1)) 0 ((([a,b]:Str).length:Nat):Int)=some [s[i],s[i + 1]]:=by
   rw [bX (by omega) (by simp) (by simp only [List.length_cons,List.length_nil]; omega)]; rfl
  rw [e,au]; generalize s[i]=x; generalize s[i + 1]=y; by_cases hx:x=a <;> by_cases hy:y=b <;> simp [hx,hy]
 ·
  rw [List.drop_of_length_le (by omega),List.getElem?_eq_none (by omega),if_neg (by simp)]; simp
theorem R_ (ps:List aM) (t:Str):(Ej ps t).length≤ps.length + 1:=by unfold Ej; split <;> simp
def NN (p:aM):Prop:=(p.Oh=true→p.text=[]∧xval p.expr=0∧p.expr.bulk≤137438953472)∧(p.Oh=false→p.text≠[]∧p.expr=zeroE)
theorem O8 {ps:List aM} {t:Str} (h:∀ p∈ps,NN p):∀ p∈Ej ps t,NN p:=by
 intro p hp; unfold Ej at hp; split at hp
 · exact h p hp
 ·
  rename_i ht; rcases List.mem_append.1 hp with hp | hp
  · exact h p hp
  ·
   cases List.mem_singleton.1 hp; exact ⟨fun h=>by simp [RP] at h,fun _=>⟨ht,rfl⟩⟩
theorem Gy {s:Str} (hs:s.length≤4096):∀ (n i k k':Nat) (ps:List aM) (t:Str),s.length + 1≤n + i→n < k→n < k'→i≤s.length→VL ps→ps.length≤2 * i→t.length≤i→(∀ p∈ps,NN p)→
  ∃ (l:List aM) (a c:Int),ko s k (i:Int) ps t=some (l,a,c)∧mQ s k' (Ej ps t) (i:Int)=some (l,a,c)∧(∀ p∈l,NN p)∧l.length≤10000∧(c≠0→l=[])
 | n,i,0,k',ps,t,_,h,_,_,_,_,_,_=>by omega
 | n,i,k + 1,0,ps,t,_,_,h,_,_,_,_,_=>by omega
 | n,i,k + 1,k' + 1,ps,t,h1,h2,h3,hi,hcl,hps,ht,hg=>by
  have hL:Gm=4294967296:=rfl; rw [ko,mQ]; by_cases hlt:i < s.length
  ·
   obtain ⟨n,rfl⟩:∃ m,n=m + 1:=⟨n - 1,by omega⟩; have e1:decide ((i:Int) < (s.length:Int))=true:=decide_eq_true (by omega); have w1:bV ((i:Int) + 1)=((i + 1:Nat):Int):=nW (by omega); have w2:bV ((i:Int) + 2)=((i + 2:Nat):Int):=by rw [bB (by omega) (by omega)]; omega
   simp only [e1,if_true,o7 hlt,au]; rw [uI (by omega),au,adD s i hlt (by omega),au]
   have R4:∀ (c:UInt8) (j:Nat),i < j→j≤i + 2→j≤s.length→∃ (l:List aM) (a c1:Int),(ay (app t [c]) fun RV=>ko s k (j:Int) ps RV)=some (l,a,c1)∧(ay (zD (Ej ps t) c) fun l2=>mQ s k' l2 (j:Int))=some (l,a,c1)∧(∀ p∈l,NN p)∧l.length≤10000∧(c1≠0→l=[]):=fun c j hj1 hj2 hj3=>by
    rw [bq (by simp; omega),au,XM hcl (by omega) (by omega) c,au]; exact Gy hs n j k k' ps (t ++ [c]) (by omega) (by omega) (by omega) hj3 hcl (by omega) (by simp; omega) hg
   by_cases hA:s[i]=36∧s[i + 1]?=some 36
   ·
    obtain ⟨a1,a2⟩:=hA; obtain ⟨hlt1,a3⟩:=List.getElem?_eq_some_iff.1 a2
    have c1:(((s[i].toNat:Int) != 36) || (decide ((s.length:Int)≤bV ((i:Int) + 1))))=false:=by
     rw [w1,a1]; simp; omega
    rw [if_pos (by simp [a1,a2]),if_neg (by rw [c1]; simp),w1,w2]; simp only [o7 hlt1,au,a3]; have e36:(((36:UInt8).toNat:Int) != 36)=false:=by decide
    have afw:(((36:UInt8).toNat:Int) == 36)=true:=by decide
    simp only [e36,afw,Bool.false_eq_true,if_false,if_true,au]; exact R4 36 (i + 2) (by omega) (by omega) (by omega)
   ·
    have p36:((s[i] == 36) && (s[i + 1]? == some 36))=false:=by
     cases hx:((s[i] == 36) && (s[i + 1]? == some 36)) with
     | false=>rfl
     | true=>simp only [Bool.and_eq_true,beq_iff_eq] at hx; exact absurd hx hA
    rw [p36,if_neg (by simp),adD s i hlt (by omega),au]; by_cases hB:s[i]=36∧s[i + 1]?=some 123
    ·
     obtain ⟨a1,a2⟩:=hB; obtain ⟨hlt1,a3⟩:=List.getElem?_eq_some_iff.1 a2
     have c1:(((s[i].toNat:Int) != 36) || (decide ((s.length:Int)≤bV ((i:Int) + 1))))=false:=by
      rw [w1,a1]; simp; omega
     rw [if_pos (by simp [a1,a2]),if_neg (by rw [c1]; simp),w1,w2]; simp only [o7 hlt1,au,a3]; have e1:(((123:UInt8).toNat:Int) != 36)=true:=by decide
     have e2:(((123:UInt8).toNat:Int) == 36)=false:=by decide
     have e3:(((123:UInt8).toNat:Int) != 123)=false:=by decide
     simp only [e1,e2,e3,Bool.false_eq_true,if_false,if_true,au]; obtain ⟨r,q1,q2,q3⟩:=Zd (s:=s) (by omega) (i:=i + 2) (by omega); rw [q1,q2,au,au]; rcases q3 with q3 | ⟨j,q3,q4,q5⟩
     ·
      subst q3; exact ⟨[],(i:Int),4,rfl,rfl,by simp,by simp,fun _=>rfl⟩
     ·
      subst q3; have d0:decide ((j:Int) < 0)=false:=decide_eq_false (by omega); have hsl:sl s ((i + 2:Nat):Int) (j:Int)=some ((s.take j).drop (i + 2)):=by rw [bX (by omega) (by omega) (by omega)]; rfl
      simp only [d0,Bool.false_eq_true,if_false,hsl,au]; obtain ⟨e,a,c,p1,p2,p3⟩:=Yv ((s.take j).drop (i + 2)); rw [p1,p2,aB,aB]; by_cases hc:c=0
      ·
       subst hc; have hr:=R_ ps t; have wj:bV ((j:Int) + 1)=((j + 1:Nat):Int):=nW (by omega); simp only [Ob,Bool.false_eq_true,if_false]; rw [SQ (by omega),au,bq (by simp; omega),au,au,wj]; have hrp:Ej (Ej ps t ++ [aM.mk ([]:Str) true e]) []=Ej ps t ++ [aM.mk ([]:Str) true e]:=rfl
       have:=Gy hs n (j + 1) k k' (Ej ps t ++ [aM.mk ([]:Str) true e]) [] (by omega) (by omega) (by omega) (by omega) (.inr ⟨_,_,rfl,rfl⟩) (by simp; omega) (by simp) (by
        intro p hp; rcases List.mem_append.1 hp with hp | hp
        · exact O8 hg p hp
        ·
         cases List.mem_singleton.1 hp
         exact ⟨fun _=>⟨rfl,p3 rfl⟩,fun h=>by cases h⟩)
       rw [hrp] at this; exact this
      ·
       simp only [Md hc,if_true]; exact ⟨[],_,c,rfl,rfl,by simp,by simp,fun _=>rfl⟩
    ·
     have ae1:((s[i] == 36) && (s[i + 1]? == some 123))=false:=by
      cases hx:((s[i] == 36) && (s[i + 1]? == some 123)) with
      | false=>rfl
      | true=>simp only [Bool.and_eq_true,beq_iff_eq] at hx; exact absurd hx hB
     have hb1:(if (((s[i].toNat:Int) != 36) || (decide ((s.length:Int)≤bV ((i:Int) + 1))))=true then some true else ay (idx s (bV ((i:Int) + 1))) fun x2=>if ((x2.toNat:Int) != 36)=true then ay (idx s (bV ((i:Int) + 1))) fun x3=>some ((x3.toNat:Int) != 123) else some false)=some true:=by
      rw [w1]; by_cases a1:s[i]=36
      ·
       by_cases hlt1:i + 1 < s.length
       ·
        have n36:¬ s[i + 1]=36:=fun h=>hA ⟨a1,by rw [List.getElem?_eq_getElem hlt1,h]⟩; have n123:¬ s[i + 1]=123:=fun h=>hB ⟨a1,by rw [List.getElem?_eq_getElem hlt1,h]⟩
        have m36:((s[i + 1].toNat:Int) != 36)=true:=by
         rw [bne_iff_ne]; intro h; exact n36 (UInt8.toNat_inj.1 (show s[i + 1].toNat=36 by omega))
        have ae4:((s[i + 1].toNat:Int) != 123)=true:=by
         rw [bne_iff_ne]; intro h; exact n123 (UInt8.toNat_inj.1 (show s[i + 1].toNat=123 by omega))
        rw [if_neg (by rw [a1]; simp; omega)]; simp only [o7 hlt1,au,m36,ae4,if_true]
       · rw [if_pos (by simp; right; omega)]
      ·
       have m36:((s[i].toNat:Int) != 36)=true:=by
        rw [bne_iff_ne]; intro h; exact a1 (UInt8.toNat_inj.1 (show s[i].toNat=36 by omega))
       rw [if_pos (by rw [m36]; simp)]
     rw [ae1,if_neg (by simp),hb1,au,if_pos rfl,w1]; exact R4 s[i] (i + 1) (by omega) (by omega) (by omega)
  ·
   have e1:decide ((i:Int) < (s.length:Int))=false:=decide_eq_false (by omega); have hr:=R_ ps t; simp only [e1,Bool.false_eq_true,if_false]; rw [SQ (by omega),au]; exact ⟨_,_,_,rfl,rfl,O8 hg,by omega,fun h=>absurd rfl h⟩
end Go.Ft
namespace Go.Ft
open Go
attribute [local congr] jQ
theorem parts_eq (s:Str):∃ (l:List aM) (a c:Int),lU s=some (l,a,c)∧BG s=some (l,a,c)∧(∀ p∈l,NN p)∧l.length≤10000∧(c≠0→l=[]):=by
 unfold lU BG; rcases Nat.lt_or_ge 4096 s.length with h | h
 ·
  rw [if_pos (decide_eq_true (by omega)),if_pos (decide_eq_true (by omega))]; exact ⟨[],0,3,rfl,rfl,by simp,by simp,fun _=>rfl⟩
 ·
  rw [if_neg (by simp; omega),if_neg (by simp; omega)]; have hB:=mg; exact Gy h (s.length + 1) 0 BIG BIG [] [] (by omega) (by omega) (by omega) (Nat.zero_le _) (.inl rfl) (by simp) (by simp) (by simp)
theorem UL {e:ah} (h:e.bulk≤137438953472):FD e e=some true:=by
 unfold FD; obtain ⟨n,hn,hn2⟩:=wN; have hB:=mg; have:∃ m,BIG=m + 1∧e.bulk≤m:=⟨BIG - 1,by omega,by omega⟩; obtain ⟨m,hm,hm2⟩:=this; rw [hm]; exact Pv m e hm2 (by omega)
theorem Wj {l:List aM} (hg:∀ p∈l,NN p) (hl:l.length≤10000):El l l=some true:=by
 unfold El; rw [if_neg (by simp)]
 have key:∀ (k i:Nat),l.length < k + i→i≤l.length→vg l l k (i:Int)=some true:=by
  intro k
  induction k with
  | zero=>intro i h1 h2; omega
  | succ k ih=>
   intro i h1 h2; rw [vg]; by_cases hi:i < l.length
   ·
    have hp:=hg l[i] (List.getElem_mem hi)
    have hb:l[i].expr.bulk≤137438953472:=by
     cases hx:l[i].Oh with
     | true=>exact (hp.1 hx).2.2
     | false=>rw [(hp.2 hx).2]; decide
    rw [if_pos (by simpa using hi)]; simp only [o7 hi,au,beq_self_eq_true,Bool.not_true,Bool.false_eq_true,if_false,UL hb]; rw [nW (by omega)]; exact ih (i + 1) (by omega) (by omega)
   · rw [if_neg (by simpa using hi)]
 have hB:=mg; exact key BIG 0 (by omega) (by omega)
theorem Ky (s1:Str) (h:(s1.length + 1)≤1048576):uK s1=some true:=by
 unfold uK; split
 · exact VU
 ·
  obtain ⟨l,a,c,h1,h2,h3,h4,_⟩:=parts_eq s1; rw [h1,h2,aB,aB,Wj h3 h4,au,if_pos (by simp)]; exact VU
end Go.Ft
