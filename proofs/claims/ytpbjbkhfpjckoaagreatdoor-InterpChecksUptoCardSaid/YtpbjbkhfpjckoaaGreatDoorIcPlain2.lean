/- Proved here: plain facts on the functional texts. -/
import Derived.Test.YtpbjbkhfpjckoaaGreatDoorIcPlain1
set_option linter.unusedVariables false
set_option linter.unusedSimpArgs false
set_option linter.unusedSectionVars false
set_option maxHeartbeats 2000000
namespace Go.Ft
open Go
attribute [local congr] gK
theorem VY :∀ {l:Str},(chr l).2.2=0→0 < (chr l).2.1∧(chr l).2.1≤l.length
 | [],h=>by simp [chr] at h
 | c :: r,h=>by
  unfold chr at h ⊢; by_cases h1:c.toNat < 32
  · simp [h1] at h
  ·
   by_cases h2:c.toNat≠92
   · simp [h1,h2]
   ·
    simp only [h1,h2,if_false] at h ⊢; cases r with
    | nil=>simp at h
    | cons d r=>
     simp only at h ⊢; by_cases h3:d.toNat=34∨d.toNat=92
     · simp [h3]
     ·
      by_cases h4:d.toNat=110
      · simp [h4]
      ·
       by_cases h5:d.toNat=116
       · simp [h5]
       ·
        by_cases h6:d.toNat=120
        ·
         simp only [h3,h4,h5,h6,if_false,if_true] at h ⊢; cases r with
         | nil=>simp at h
         | cons a r=>
          simp only at h ⊢; cases ha:EO a with
          | none=>simp [ha] at h
          | some x=>
           simp only [ha] at h ⊢; cases r with
           | nil=>simp at h
           | cons b r=>
            simp only at h ⊢; cases hb:EO b with
            | none=>simp [hb] at h
            | some y=>simp
        · simp [h3,h4,h5,h6] at h
theorem getD_drop {s:Str} {i:Nat} (h:i < s.length):s.drop i=s.getD i 0 :: s.drop (i + 1):=by
 rw [List.drop_eq_getElem_cons h,List.getD_eq_getElem?_getD,List.getElem?_eq_getElem h,Option.getD_some]
theorem dflt :(default:UInt8)=0:=rfl
theorem abQ {s:Str} (hs:s.length < 4611686018427387904) {i:Nat} (hi:i + 1 < s.length) (h1:(s.getD i 0).toNat=92) (h2:(s.getD (i + 1) 0).toNat=120):
  xG s (i:Int)=some ((chr (s.drop i)).1,((chr (s.drop i)).2.1:Int),(chr (s.drop i)).2.2):=by
 rw [getD_drop (by omega),getD_drop hi]; unfold chr; unfold xG; obtain ⟨m,hm⟩:∃ m,BIG=m + 3:=⟨BIG - 3,rfl⟩; rw [hm]; by_cases h4:i + 2 < s.length
 ·
  rw [getD_drop (by omega:i + 1 + 1 < s.length)]; simp (disch:=omega) only [jU,Qd,dflt,h2,aT,aX,bD,aR,aY,if_pos,if_neg,ak,aC,aD,aF,aG,aJ,aI,aH,decide_eq_true_eq,beq_iff_eq,bne_iff_ne,ne_eq,Bool.and_eq_true,Bool.or_eq_true,Bool.not_eq_true',Bool.not_eq_true,decide_eq_false_iff_not,beq_eq_false_iff_ne,bne_eq_false_iff_eq,Int.toNat_add,Int.toNat_natCast,Int.reduceToNat,Int.zero_add,Int.add_zero,Nat.add_zero,Nat.zero_add,Bool.true_and,Bool.and_true,Bool.false_and,Bool.and_false,Bool.true_or,Bool.or_true,Bool.false_or,Bool.or_false,Bool.not_true,Bool.not_false,Bool.false_eq_true,Bool.true_eq_false,reduceCtorEq,not_true_eq_false,not_false_eq_true,if_true,if_false,decide_true,decide_false]; cases ha:EO (s.getD (i + 1 + 1) 0) with
  | none=>simp (disch:=omega) only [CJ ha,aT,aX,bD,aR,aY,if_pos,if_neg,ak,aC,aD,aF,aG,aJ,aI,aH,decide_eq_true_eq,beq_iff_eq,bne_iff_ne,ne_eq,Bool.and_eq_true,Bool.or_eq_true,Bool.not_eq_true',Bool.not_eq_true,decide_eq_false_iff_not,beq_eq_false_iff_ne,bne_eq_false_iff_eq,Int.toNat_add,Int.toNat_natCast,Int.reduceToNat,Int.zero_add,Int.add_zero,Nat.add_zero,Nat.zero_add,Bool.true_and,Bool.and_true,Bool.false_and,Bool.and_false,Bool.true_or,Bool.or_true,Bool.false_or,Bool.or_false,Bool.not_true,Bool.not_false,Bool.false_eq_true,Bool.true_eq_false,reduceCtorEq,not_true_eq_false,not_false_eq_true,if_true,if_false,decide_true,decide_false]; rfl
  | some x=>
   have hx:=K4 ha; by_cases h5:i + 3 < s.length
   ·
    rw [getD_drop (by omega:i + 1 + 1 + 1 < s.length)]; simp (disch:=omega) only [jU,Qd,dflt,zJ ha,aT,aX,bD,aR,aY,if_pos,if_neg,ak,aC,aD,aF,aG,aJ,aI,aH,decide_eq_true_eq,beq_iff_eq,bne_iff_ne,ne_eq,Bool.and_eq_true,Bool.or_eq_true,Bool.not_eq_true',Bool.not_eq_true,decide_eq_false_iff_not,beq_eq_false_iff_ne,bne_eq_false_iff_eq,Int.toNat_add,Int.toNat_natCast,Int.reduceToNat,Int.zero_add,Int.add_zero,Nat.add_zero,Nat.zero_add,Bool.true_and,Bool.and_true,Bool.false_and,Bool.and_false,Bool.true_or,Bool.or_true,Bool.false_or,Bool.or_false,Bool.not_true,Bool.not_false,Bool.false_eq_true,Bool.true_eq_false,reduceCtorEq,not_true_eq_false,not_false_eq_true,if_true,if_false,decide_true,decide_false]; cases hb:EO (s.getD (i + 1 + 1 + 1) 0) with
    | none=>simp (disch:=omega) only [CJ hb,aT,aX,bD,aR,aY,if_pos,if_neg,ak,aC,aD,aF,aG,aJ,aI,aH,decide_eq_true_eq,beq_iff_eq,bne_iff_ne,ne_eq,Bool.and_eq_true,Bool.or_eq_true,Bool.not_eq_true',Bool.not_eq_true,decide_eq_false_iff_not,beq_eq_false_iff_ne,bne_eq_false_iff_eq,Int.toNat_add,Int.toNat_natCast,Int.reduceToNat,Int.zero_add,Int.add_zero,Nat.add_zero,Nat.zero_add,Bool.true_and,Bool.and_true,Bool.false_and,Bool.and_false,Bool.true_or,Bool.or_true,Bool.false_or,Bool.or_false,Bool.not_true,Bool.not_false,Bool.false_eq_true,Bool.true_eq_false,reduceCtorEq,not_true_eq_false,not_false_eq_true,if_true,if_false,decide_true,decide_false]; rfl
    | some y=>
     have hy:=K4 hb; simp (disch:=omega) only [zJ hb,jU,aT,aX,bD,aR,aY,if_pos,if_neg,ak,aC,aD,aF,aG,aJ,aI,aH,decide_eq_true_eq,beq_iff_eq,bne_iff_ne,ne_eq,Bool.and_eq_true,Bool.or_eq_true,Bool.not_eq_true',Bool.not_eq_true,decide_eq_false_iff_not,beq_eq_false_iff_ne,bne_eq_false_iff_eq,Int.toNat_add,Int.toNat_natCast,Int.reduceToNat,Int.zero_add,Int.add_zero,Nat.add_zero,Nat.zero_add,Bool.true_and,Bool.and_true,Bool.false_and,Bool.and_false,Bool.true_or,Bool.or_true,Bool.false_or,Bool.or_false,Bool.not_true,Bool.not_false,Bool.false_eq_true,Bool.true_eq_false,reduceCtorEq,not_true_eq_false,not_false_eq_true,if_true,if_false,decide_true,decide_false]
     have:byteOf (16 * (16 * 0 + (x:Int)) + (y:Int))=UInt8.ofNat (16 * x + y):=by
      apply UInt8.toNat_inj.1; have e1:((byteOf (16 * (16 * 0 + (x:Int)) + (y:Int))).toNat:Int)=16 * (16 * 0 + (x:Int)) + (y:Int):=Pz (by omega) (by omega); have e2:(UInt8.ofNat (16 * x + y)).toNat=16 * x + y:=by simp; omega
      omega
     rw [this]; rfl
   ·
    rw [List.drop_eq_nil_of_le (by omega:s.length≤i + 1 + 1 + 1)]; simp (disch:=omega) only [jU,Qd,dflt,zJ ha,aT,aX,bD,aR,aY,if_pos,if_neg,ak,aC,aD,aF,aG,aJ,aI,aH,decide_eq_true_eq,beq_iff_eq,bne_iff_ne,ne_eq,Bool.and_eq_true,Bool.or_eq_true,Bool.not_eq_true',Bool.not_eq_true,decide_eq_false_iff_not,beq_eq_false_iff_ne,bne_eq_false_iff_eq,Int.toNat_add,Int.toNat_natCast,Int.reduceToNat,Int.zero_add,Int.add_zero,Nat.add_zero,Nat.zero_add,Bool.true_and,Bool.and_true,Bool.false_and,Bool.and_false,Bool.true_or,Bool.or_true,Bool.false_or,Bool.or_false,Bool.not_true,Bool.not_false,Bool.false_eq_true,Bool.true_eq_false,reduceCtorEq,not_true_eq_false,not_false_eq_true,if_true,if_false,decide_true,decide_false]; rfl
 ·
  rw [List.drop_eq_nil_of_le (by omega:s.length≤i + 1 + 1)]; simp (disch:=omega) only [jU,h2,aT,aX,bD,aR,aY,if_pos,if_neg,ak,aC,aD,aF,aG,aJ,aI,aH,decide_eq_true_eq,beq_iff_eq,bne_iff_ne,ne_eq,Bool.and_eq_true,Bool.or_eq_true,Bool.not_eq_true',Bool.not_eq_true,decide_eq_false_iff_not,beq_eq_false_iff_ne,bne_eq_false_iff_eq,Int.toNat_add,Int.toNat_natCast,Int.reduceToNat,Int.zero_add,Int.add_zero,Nat.add_zero,Nat.zero_add,Bool.true_and,Bool.and_true,Bool.false_and,Bool.and_false,Bool.true_or,Bool.or_true,Bool.false_or,Bool.or_false,Bool.not_true,Bool.not_false,Bool.false_eq_true,Bool.true_eq_false,reduceCtorEq,not_true_eq_false,not_false_eq_true,if_true,if_false,decide_true,decide_false]; rfl
theorem abT {s:Str} (hs:s.length < 4611686018427387904) {i:Nat} (hi:i < s.length):l9 s (i:Int)=some ((chr (s.drop i)).1,((chr (s.drop i)).2.1:Int),(chr (s.drop i)).2.2):=by
 by_cases h1:(s.getD i 0).toNat=92
 ·
  by_cases h2:i + 1 < s.length
  ·
   by_cases h3:(s.getD (i + 1) 0).toNat=120
   ·
    rw [←abQ hs h2 h1 h3]; unfold l9; simp (disch:=omega) only [dflt,aT,aX,bD,aR,aY,if_pos,if_neg,ak,aC,aD,aF,aG,aJ,aI,aH,decide_eq_true_eq,beq_iff_eq,bne_iff_ne,ne_eq,Bool.and_eq_true,Bool.or_eq_true,Bool.not_eq_true',Bool.not_eq_true,decide_eq_false_iff_not,beq_eq_false_iff_ne,bne_eq_false_iff_eq,Int.toNat_add,Int.toNat_natCast,Int.reduceToNat,Int.zero_add,Int.add_zero,Nat.add_zero,Nat.zero_add,Bool.true_and,Bool.and_true,Bool.false_and,Bool.and_false,Bool.true_or,Bool.or_true,Bool.false_or,Bool.or_false,Bool.not_true,Bool.not_false,Bool.false_eq_true,Bool.true_eq_false,reduceCtorEq,not_true_eq_false,not_false_eq_true,if_true,if_false,decide_true,decide_false]
   ·
    rw [getD_drop hi,getD_drop h2]; unfold l9 chr; simp (disch:=omega) only [dflt,aT,aX,bD,aR,aY,if_pos,if_neg,ak,aC,aD,aF,aG,aJ,aI,aH,decide_eq_true_eq,beq_iff_eq,bne_iff_ne,ne_eq,Bool.and_eq_true,Bool.or_eq_true,Bool.not_eq_true',Bool.not_eq_true,decide_eq_false_iff_not,beq_eq_false_iff_ne,bne_eq_false_iff_eq,Int.toNat_add,Int.toNat_natCast,Int.reduceToNat,Int.zero_add,Int.add_zero,Nat.add_zero,Nat.zero_add,Bool.true_and,Bool.and_true,Bool.false_and,Bool.and_false,Bool.true_or,Bool.or_true,Bool.false_or,Bool.or_false,Bool.not_true,Bool.not_false,Bool.false_eq_true,Bool.true_eq_false,reduceCtorEq,not_true_eq_false,not_false_eq_true,if_true,if_false,decide_true,decide_false]; by_cases d1:(s.getD (i + 1) 0).toNat=34
    · simp (disch:=omega) only [aT,aX,bD,aR,aY,if_pos,if_neg,ak,aC,aD,aF,aG,aJ,aI,aH,decide_eq_true_eq,beq_iff_eq,bne_iff_ne,ne_eq,Bool.and_eq_true,Bool.or_eq_true,Bool.not_eq_true',Bool.not_eq_true,decide_eq_false_iff_not,beq_eq_false_iff_ne,bne_eq_false_iff_eq,Int.toNat_add,Int.toNat_natCast,Int.reduceToNat,Int.zero_add,Int.add_zero,Nat.add_zero,Nat.zero_add,Bool.true_and,Bool.and_true,Bool.false_and,Bool.and_false,Bool.true_or,Bool.or_true,Bool.false_or,Bool.or_false,Bool.not_true,Bool.not_false,Bool.false_eq_true,Bool.true_eq_false,reduceCtorEq,not_true_eq_false,not_false_eq_true,if_true,if_false,decide_true,decide_false]; rfl
    ·
     by_cases d2:(s.getD (i + 1) 0).toNat=92
     · simp (disch:=omega) only [aT,aX,bD,aR,aY,if_pos,if_neg,ak,aC,aD,aF,aG,aJ,aI,aH,decide_eq_true_eq,beq_iff_eq,bne_iff_ne,ne_eq,Bool.and_eq_true,Bool.or_eq_true,Bool.not_eq_true',Bool.not_eq_true,decide_eq_false_iff_not,beq_eq_false_iff_ne,bne_eq_false_iff_eq,Int.toNat_add,Int.toNat_natCast,Int.reduceToNat,Int.zero_add,Int.add_zero,Nat.add_zero,Nat.zero_add,Bool.true_and,Bool.and_true,Bool.false_and,Bool.and_false,Bool.true_or,Bool.or_true,Bool.false_or,Bool.or_false,Bool.not_true,Bool.not_false,Bool.false_eq_true,Bool.true_eq_false,reduceCtorEq,not_true_eq_false,not_false_eq_true,if_true,if_false,decide_true,decide_false]; rfl
     ·
      by_cases d3:(s.getD (i + 1) 0).toNat=110
      · simp (disch:=omega) only [aT,aX,bD,aR,aY,if_pos,if_neg,ak,aC,aD,aF,aG,aJ,aI,aH,decide_eq_true_eq,beq_iff_eq,bne_iff_ne,ne_eq,Bool.and_eq_true,Bool.or_eq_true,Bool.not_eq_true',Bool.not_eq_true,decide_eq_false_iff_not,beq_eq_false_iff_ne,bne_eq_false_iff_eq,Int.toNat_add,Int.toNat_natCast,Int.reduceToNat,Int.zero_add,Int.add_zero,Nat.add_zero,Nat.zero_add,Bool.true_and,Bool.and_true,Bool.false_and,Bool.and_false,Bool.true_or,Bool.or_true,Bool.false_or,Bool.or_false,Bool.not_true,Bool.not_false,Bool.false_eq_true,Bool.true_eq_false,reduceCtorEq,not_true_eq_false,not_false_eq_true,if_true,if_false,decide_true,decide_false]; rfl
      ·
       by_cases d4:(s.getD (i + 1) 0).toNat=116
       · simp (disch:=omega) only [aT,aX,bD,aR,aY,if_pos,if_neg,ak,aC,aD,aF,aG,aJ,aI,aH,decide_eq_true_eq,beq_iff_eq,bne_iff_ne,ne_eq,Bool.and_eq_true,Bool.or_eq_true,Bool.not_eq_true',Bool.not_eq_true,decide_eq_false_iff_not,beq_eq_false_iff_ne,bne_eq_false_iff_eq,Int.toNat_add,Int.toNat_natCast,Int.reduceToNat,Int.zero_add,Int.add_zero,Nat.add_zero,Nat.zero_add,Bool.true_and,Bool.and_true,Bool.false_and,Bool.and_false,Bool.true_or,Bool.or_true,Bool.false_or,Bool.or_false,Bool.not_true,Bool.not_false,Bool.false_eq_true,Bool.true_eq_false,reduceCtorEq,not_true_eq_false,not_false_eq_true,if_true,if_false,decide_true,decide_false]; rfl
       · simp (disch:=omega) only [aT,aX,bD,aR,aY,if_pos,if_neg,ak,aC,aD,aF,aG,aJ,aI,aH,decide_eq_true_eq,beq_iff_eq,bne_iff_ne,ne_eq,Bool.and_eq_true,Bool.or_eq_true,Bool.not_eq_true',Bool.not_eq_true,decide_eq_false_iff_not,beq_eq_false_iff_ne,bne_eq_false_iff_eq,Int.toNat_add,Int.toNat_natCast,Int.reduceToNat,Int.zero_add,Int.add_zero,Nat.add_zero,Nat.zero_add,Bool.true_and,Bool.and_true,Bool.false_and,Bool.and_false,Bool.true_or,Bool.or_true,Bool.false_or,Bool.or_false,Bool.not_true,Bool.not_false,Bool.false_eq_true,Bool.true_eq_false,reduceCtorEq,not_true_eq_false,not_false_eq_true,if_true,if_false,decide_true,decide_false]; rfl
  ·
   rw [getD_drop hi,List.drop_eq_nil_of_le (by omega:s.length≤i + 1)]; unfold l9 chr; simp (disch:=omega) only [dflt,aT,aX,bD,aR,aY,if_pos,if_neg,ak,aC,aD,aF,aG,aJ,aI,aH,decide_eq_true_eq,beq_iff_eq,bne_iff_ne,ne_eq,Bool.and_eq_true,Bool.or_eq_true,Bool.not_eq_true',Bool.not_eq_true,decide_eq_false_iff_not,beq_eq_false_iff_ne,bne_eq_false_iff_eq,Int.toNat_add,Int.toNat_natCast,Int.reduceToNat,Int.zero_add,Int.add_zero,Nat.add_zero,Nat.zero_add,Bool.true_and,Bool.and_true,Bool.false_and,Bool.and_false,Bool.true_or,Bool.or_true,Bool.false_or,Bool.or_false,Bool.not_true,Bool.not_false,Bool.false_eq_true,Bool.true_eq_false,reduceCtorEq,not_true_eq_false,not_false_eq_true,if_true,if_false,decide_true,decide_false]; rfl
 ·
  rw [getD_drop hi]; unfold l9 chr; by_cases h2:(s.getD i 0).toNat < 32
  · simp (disch:=omega) only [dflt,aT,aX,bD,aR,aY,if_pos,if_neg,ak,aC,aD,aF,aG,aJ,aI,aH,decide_eq_true_eq,beq_iff_eq,bne_iff_ne,ne_eq,Bool.and_eq_true,Bool.or_eq_true,Bool.not_eq_true',Bool.not_eq_true,decide_eq_false_iff_not,beq_eq_false_iff_ne,bne_eq_false_iff_eq,Int.toNat_add,Int.toNat_natCast,Int.reduceToNat,Int.zero_add,Int.add_zero,Nat.add_zero,Nat.zero_add,Bool.true_and,Bool.and_true,Bool.false_and,Bool.and_false,Bool.true_or,Bool.or_true,Bool.false_or,Bool.or_false,Bool.not_true,Bool.not_false,Bool.false_eq_true,Bool.true_eq_false,reduceCtorEq,not_true_eq_false,not_false_eq_true,if_true,if_false,decide_true,decide_false]; rfl
  · simp (disch:=omega) only [dflt,aT,aX,bD,aR,aY,if_pos,if_neg,ak,aC,aD,aF,aG,aJ,aI,aH,decide_eq_true_eq,beq_iff_eq,bne_iff_ne,ne_eq,Bool.and_eq_true,Bool.or_eq_true,Bool.not_eq_true',Bool.not_eq_true,decide_eq_false_iff_not,beq_eq_false_iff_ne,bne_eq_false_iff_eq,Int.toNat_add,Int.toNat_natCast,Int.reduceToNat,Int.zero_add,Int.add_zero,Nat.add_zero,Nat.zero_add,Bool.true_and,Bool.and_true,Bool.false_and,Bool.and_false,Bool.true_or,Bool.or_true,Bool.false_or,Bool.or_false,Bool.not_true,Bool.not_false,Bool.false_eq_true,Bool.true_eq_false,reduceCtorEq,not_true_eq_false,not_false_eq_true,if_true,if_false,decide_true,decide_false]; rfl
theorem ab6 {s:Str} (hs:s.length < 4611686018427387904) {i:Nat} (hi:i < s.length) (h1:(s.getD i 0).toNat=92):
  tJ s (i:Int)=some ((chr (s.drop i)).1,((chr (s.drop i)).2.1:Int)):=by
 unfold tJ; rw [getD_drop hi]; unfold chr; by_cases h2:i + 1 < s.length
 ·
  rw [getD_drop h2]; simp (disch:=omega) only [dflt,aT,aX,bD,aR,aY,if_pos,if_neg,ak,aC,aD,aF,aG,aJ,aI,aH,decide_eq_true_eq,beq_iff_eq,bne_iff_ne,ne_eq,Bool.and_eq_true,Bool.or_eq_true,Bool.not_eq_true',Bool.not_eq_true,decide_eq_false_iff_not,beq_eq_false_iff_ne,bne_eq_false_iff_eq,Int.toNat_add,Int.toNat_natCast,Int.reduceToNat,Int.zero_add,Int.add_zero,Nat.add_zero,Nat.zero_add,Bool.true_and,Bool.and_true,Bool.false_and,Bool.and_false,Bool.true_or,Bool.or_true,Bool.false_or,Bool.or_false,Bool.not_true,Bool.not_false,Bool.false_eq_true,Bool.true_eq_false,reduceCtorEq,not_true_eq_false,not_false_eq_true,if_true,if_false,decide_true,decide_false]; by_cases d1:(s.getD (i + 1) 0).toNat=34
  · simp (disch:=omega) only [aT,aX,bD,aR,aY,if_pos,if_neg,ak,aC,aD,aF,aG,aJ,aI,aH,decide_eq_true_eq,beq_iff_eq,bne_iff_ne,ne_eq,Bool.and_eq_true,Bool.or_eq_true,Bool.not_eq_true',Bool.not_eq_true,decide_eq_false_iff_not,beq_eq_false_iff_ne,bne_eq_false_iff_eq,Int.toNat_add,Int.toNat_natCast,Int.reduceToNat,Int.zero_add,Int.add_zero,Nat.add_zero,Nat.zero_add,Bool.true_and,Bool.and_true,Bool.false_and,Bool.and_false,Bool.true_or,Bool.or_true,Bool.false_or,Bool.or_false,Bool.not_true,Bool.not_false,Bool.false_eq_true,Bool.true_eq_false,reduceCtorEq,not_true_eq_false,not_false_eq_true,if_true,if_false,decide_true,decide_false]; rfl
  ·
   by_cases d2:(s.getD (i + 1) 0).toNat=92
   · simp (disch:=omega) only [aT,aX,bD,aR,aY,if_pos,if_neg,ak,aC,aD,aF,aG,aJ,aI,aH,decide_eq_true_eq,beq_iff_eq,bne_iff_ne,ne_eq,Bool.and_eq_true,Bool.or_eq_true,Bool.not_eq_true',Bool.not_eq_true,decide_eq_false_iff_not,beq_eq_false_iff_ne,bne_eq_false_iff_eq,Int.toNat_add,Int.toNat_natCast,Int.reduceToNat,Int.zero_add,Int.add_zero,Nat.add_zero,Nat.zero_add,Bool.true_and,Bool.and_true,Bool.false_and,Bool.and_false,Bool.true_or,Bool.or_true,Bool.false_or,Bool.or_false,Bool.not_true,Bool.not_false,Bool.false_eq_true,Bool.true_eq_false,reduceCtorEq,not_true_eq_false,not_false_eq_true,if_true,if_false,decide_true,decide_false]; rfl
   ·
    by_cases d3:(s.getD (i + 1) 0).toNat=110
    · simp (disch:=omega) only [aT,aX,bD,aR,aY,if_pos,if_neg,ak,aC,aD,aF,aG,aJ,aI,aH,decide_eq_true_eq,beq_iff_eq,bne_iff_ne,ne_eq,Bool.and_eq_true,Bool.or_eq_true,Bool.not_eq_true',Bool.not_eq_true,decide_eq_false_iff_not,beq_eq_false_iff_ne,bne_eq_false_iff_eq,Int.toNat_add,Int.toNat_natCast,Int.reduceToNat,Int.zero_add,Int.add_zero,Nat.add_zero,Nat.zero_add,Bool.true_and,Bool.and_true,Bool.false_and,Bool.and_false,Bool.true_or,Bool.or_true,Bool.false_or,Bool.or_false,Bool.not_true,Bool.not_false,Bool.false_eq_true,Bool.true_eq_false,reduceCtorEq,not_true_eq_false,not_false_eq_true,if_true,if_false,decide_true,decide_false]; rfl
    ·
     by_cases d4:(s.getD (i + 1) 0).toNat=116
     · simp (disch:=omega) only [aT,aX,bD,aR,aY,if_pos,if_neg,ak,aC,aD,aF,aG,aJ,aI,aH,decide_eq_true_eq,beq_iff_eq,bne_iff_ne,ne_eq,Bool.and_eq_true,Bool.or_eq_true,Bool.not_eq_true',Bool.not_eq_true,decide_eq_false_iff_not,beq_eq_false_iff_ne,bne_eq_false_iff_eq,Int.toNat_add,Int.toNat_natCast,Int.reduceToNat,Int.zero_add,Int.add_zero,Nat.add_zero,Nat.zero_add,Bool.true_and,Bool.and_true,Bool.false_and,Bool.and_false,Bool.true_or,Bool.or_true,Bool.false_or,Bool.or_false,Bool.not_true,Bool.not_false,Bool.false_eq_true,Bool.true_eq_false,reduceCtorEq,not_true_eq_false,not_false_eq_true,if_true,if_false,decide_true,decide_false]; rfl
     ·
      by_cases d5:(s.getD (i + 1) 0).toNat=120
      ·
       simp (disch:=omega) only [aT,aX,bD,aR,aY,if_pos,if_neg,ak,aC,aD,aF,aG,aJ,aI,aH,decide_eq_true_eq,beq_iff_eq,bne_iff_ne,ne_eq,Bool.and_eq_true,Bool.or_eq_true,Bool.not_eq_true',Bool.not_eq_true,decide_eq_false_iff_not,beq_eq_false_iff_ne,bne_eq_false_iff_eq,Int.toNat_add,Int.toNat_natCast,Int.reduceToNat,Int.zero_add,Int.add_zero,Nat.add_zero,Nat.zero_add,Bool.true_and,Bool.and_true,Bool.false_and,Bool.and_false,Bool.true_or,Bool.or_true,Bool.false_or,Bool.or_false,Bool.not_true,Bool.not_false,Bool.false_eq_true,Bool.true_eq_false,reduceCtorEq,not_true_eq_false,not_false_eq_true,if_true,if_false,decide_true,decide_false]; by_cases h4:i + 2 < s.length
       ·
        rw [show s.drop (i + 1 + 1)=s.getD (i + 2) 0 :: s.drop (i + 3) from getD_drop (by omega)]; by_cases h5:i + 3 < s.length
        ·
         rw [show s.drop (i + 3)=s.getD (i + 3) 0 :: s.drop (i + 4) from getD_drop (by omega)]; simp (disch:=omega) only [Uv,dflt,aT,aX,bD,aR,aY,if_pos,if_neg,ak,aC,aD,aF,aG,aJ,aI,aH,decide_eq_true_eq,beq_iff_eq,bne_iff_ne,ne_eq,Bool.and_eq_true,Bool.or_eq_true,Bool.not_eq_true',Bool.not_eq_true,decide_eq_false_iff_not,beq_eq_false_iff_ne,bne_eq_false_iff_eq,Int.toNat_add,Int.toNat_natCast,Int.reduceToNat,Int.zero_add,Int.add_zero,Nat.add_zero,Nat.zero_add,Bool.true_and,Bool.and_true,Bool.false_and,Bool.and_false,Bool.true_or,Bool.or_true,Bool.false_or,Bool.or_false,Bool.not_true,Bool.not_false,Bool.false_eq_true,Bool.true_eq_false,reduceCtorEq,not_true_eq_false,not_false_eq_true,if_true,if_false,decide_true,decide_false]; cases ha:EO (s.getD (i + 2) 0) with
         | none=>simp (disch:=omega) only [CJ ha,aT,aX,bD,aR,aY,if_pos,if_neg,ak,aC,aD,aF,aG,aJ,aI,aH,decide_eq_true_eq,beq_iff_eq,bne_iff_ne,ne_eq,Bool.and_eq_true,Bool.or_eq_true,Bool.not_eq_true',Bool.not_eq_true,decide_eq_false_iff_not,beq_eq_false_iff_ne,bne_eq_false_iff_eq,Int.toNat_add,Int.toNat_natCast,Int.reduceToNat,Int.zero_add,Int.add_zero,Nat.add_zero,Nat.zero_add,Bool.true_and,Bool.and_true,Bool.false_and,Bool.and_false,Bool.true_or,Bool.or_true,Bool.false_or,Bool.or_false,Bool.not_true,Bool.not_false,Bool.false_eq_true,Bool.true_eq_false,reduceCtorEq,not_true_eq_false,not_false_eq_true,if_true,if_false,decide_true,decide_false]; rfl
         | some x=>
          have hx:=K4 ha; simp (disch:=omega) only [zJ ha,aT,aX,bD,aR,aY,if_pos,if_neg,ak,aC,aD,aF,aG,aJ,aI,aH,decide_eq_true_eq,beq_iff_eq,bne_iff_ne,ne_eq,Bool.and_eq_true,Bool.or_eq_true,Bool.not_eq_true',Bool.not_eq_true,decide_eq_false_iff_not,beq_eq_false_iff_ne,bne_eq_false_iff_eq,Int.toNat_add,Int.toNat_natCast,Int.reduceToNat,Int.zero_add,Int.add_zero,Nat.add_zero,Nat.zero_add,Bool.true_and,Bool.and_true,Bool.false_and,Bool.and_false,Bool.true_or,Bool.or_true,Bool.false_or,Bool.or_false,Bool.not_true,Bool.not_false,Bool.false_eq_true,Bool.true_eq_false,reduceCtorEq,not_true_eq_false,not_false_eq_true,if_true,if_false,decide_true,decide_false]; cases hb:EO (s.getD (i + 3) 0) with
          | none=>simp (disch:=omega) only [CJ hb,aT,aX,bD,aR,aY,if_pos,if_neg,ak,aC,aD,aF,aG,aJ,aI,aH,decide_eq_true_eq,beq_iff_eq,bne_iff_ne,ne_eq,Bool.and_eq_true,Bool.or_eq_true,Bool.not_eq_true',Bool.not_eq_true,decide_eq_false_iff_not,beq_eq_false_iff_ne,bne_eq_false_iff_eq,Int.toNat_add,Int.toNat_natCast,Int.reduceToNat,Int.zero_add,Int.add_zero,Nat.add_zero,Nat.zero_add,Bool.true_and,Bool.and_true,Bool.false_and,Bool.and_false,Bool.true_or,Bool.or_true,Bool.false_or,Bool.or_false,Bool.not_true,Bool.not_false,Bool.false_eq_true,Bool.true_eq_false,reduceCtorEq,not_true_eq_false,not_false_eq_true,if_true,if_false,decide_true,decide_false]; rfl
          | some y=>
           have hy:=K4 hb; simp (disch:=omega) only [zJ hb,aT,aX,bD,aR,aY,if_pos,if_neg,ak,aC,aD,aF,aG,aJ,aI,aH,decide_eq_true_eq,beq_iff_eq,bne_iff_ne,ne_eq,Bool.and_eq_true,Bool.or_eq_true,Bool.not_eq_true',Bool.not_eq_true,decide_eq_false_iff_not,beq_eq_false_iff_ne,bne_eq_false_iff_eq,Int.toNat_add,Int.toNat_natCast,Int.reduceToNat,Int.zero_add,Int.add_zero,Nat.add_zero,Nat.zero_add,Bool.true_and,Bool.and_true,Bool.false_and,Bool.and_false,Bool.true_or,Bool.or_true,Bool.false_or,Bool.or_false,Bool.not_true,Bool.not_false,Bool.false_eq_true,Bool.true_eq_false,reduceCtorEq,not_true_eq_false,not_false_eq_true,if_true,if_false,decide_true,decide_false]
           have:byteOf (16 * (x:Int) + (y:Int))=UInt8.ofNat (16 * x + y):=by
            apply UInt8.toNat_inj.1; have e1:((byteOf (16 * (x:Int) + (y:Int))).toNat:Int)=16 * (x:Int) + (y:Int):=Pz (by omega) (by omega); have e2:(UInt8.ofNat (16 * x + y)).toNat=16 * x + y:=by simp; omega
            omega
           rw [this]; rfl
        ·
         rw [List.drop_eq_nil_of_le (by omega:s.length≤i + 3)]; simp (disch:=omega) only [Uv,aT,aX,bD,aR,aY,if_pos,if_neg,ak,aC,aD,aF,aG,aJ,aI,aH,decide_eq_true_eq,beq_iff_eq,bne_iff_ne,ne_eq,Bool.and_eq_true,Bool.or_eq_true,Bool.not_eq_true',Bool.not_eq_true,decide_eq_false_iff_not,beq_eq_false_iff_ne,bne_eq_false_iff_eq,Int.toNat_add,Int.toNat_natCast,Int.reduceToNat,Int.zero_add,Int.add_zero,Nat.add_zero,Nat.zero_add,Bool.true_and,Bool.and_true,Bool.false_and,Bool.and_false,Bool.true_or,Bool.or_true,Bool.false_or,Bool.or_false,Bool.not_true,Bool.not_false,Bool.false_eq_true,Bool.true_eq_false,reduceCtorEq,not_true_eq_false,not_false_eq_true,if_true,if_false,decide_true,decide_false]; cases ha:EO (s.getD (i + 2) 0) <;> rfl
       ·
        rw [List.drop_eq_nil_of_le (by omega:s.length≤i + 1 + 1)]; simp (disch:=omega) only [aT,aX,bD,aR,aY,if_pos,if_neg,ak,aC,aD,aF,aG,aJ,aI,aH,decide_eq_true_eq,beq_iff_eq,bne_iff_ne,ne_eq,Bool.and_eq_true,Bool.or_eq_true,Bool.not_eq_true',Bool.not_eq_true,decide_eq_false_iff_not,beq_eq_false_iff_ne,bne_eq_false_iff_eq,Int.toNat_add,Int.toNat_natCast,Int.reduceToNat,Int.zero_add,Int.add_zero,Nat.add_zero,Nat.zero_add,Bool.true_and,Bool.and_true,Bool.false_and,Bool.and_false,Bool.true_or,Bool.or_true,Bool.false_or,Bool.or_false,Bool.not_true,Bool.not_false,Bool.false_eq_true,Bool.true_eq_false,reduceCtorEq,not_true_eq_false,not_false_eq_true,if_true,if_false,decide_true,decide_false]; rfl
      · simp (disch:=omega) only [aT,aX,bD,aR,aY,if_pos,if_neg,ak,aC,aD,aF,aG,aJ,aI,aH,decide_eq_true_eq,beq_iff_eq,bne_iff_ne,ne_eq,Bool.and_eq_true,Bool.or_eq_true,Bool.not_eq_true',Bool.not_eq_true,decide_eq_false_iff_not,beq_eq_false_iff_ne,bne_eq_false_iff_eq,Int.toNat_add,Int.toNat_natCast,Int.reduceToNat,Int.zero_add,Int.add_zero,Nat.add_zero,Nat.zero_add,Bool.true_and,Bool.and_true,Bool.false_and,Bool.and_false,Bool.true_or,Bool.or_true,Bool.false_or,Bool.or_false,Bool.not_true,Bool.not_false,Bool.false_eq_true,Bool.true_eq_false,reduceCtorEq,not_true_eq_false,not_false_eq_true,if_true,if_false,decide_true,decide_false]; rfl
 ·
  rw [List.drop_eq_nil_of_le (by omega:s.length≤i + 1)]; simp (disch:=omega) only [aT,aX,bD,aR,aY,if_pos,if_neg,ak,aC,aD,aF,aG,aJ,aI,aH,decide_eq_true_eq,beq_iff_eq,bne_iff_ne,ne_eq,Bool.and_eq_true,Bool.or_eq_true,Bool.not_eq_true',Bool.not_eq_true,decide_eq_false_iff_not,beq_eq_false_iff_ne,bne_eq_false_iff_eq,Int.toNat_add,Int.toNat_natCast,Int.reduceToNat,Int.zero_add,Int.add_zero,Nat.add_zero,Nat.zero_add,Bool.true_and,Bool.and_true,Bool.false_and,Bool.and_false,Bool.true_or,Bool.or_true,Bool.false_or,Bool.or_false,Bool.not_true,Bool.not_false,Bool.false_eq_true,Bool.true_eq_false,reduceCtorEq,not_true_eq_false,not_false_eq_true,if_true,if_false,decide_true,decide_false]; rfl
theorem Xg {s:Str} (hs:s.length < 4611686018427387904) {i:Nat} (hi:i < s.length) (h1:(s.getD i 0).toNat=92) (he:(chr (s.drop i)).2.2≠0):
  xR s (i:Int)=some ((chr (s.drop i)).2.2 == 4):=by
 unfold xR; rw [getD_drop hi] at he ⊢; simp (disch:=omega) only [aT,aX,bD,aR,aY,if_pos,if_neg,ak,aC,aD,aF,aG,aJ,aI,aH,decide_eq_true_eq,beq_iff_eq,bne_iff_ne,ne_eq,Bool.and_eq_true,Bool.or_eq_true,Bool.not_eq_true',Bool.not_eq_true,decide_eq_false_iff_not,beq_eq_false_iff_ne,bne_eq_false_iff_eq,Int.toNat_add,Int.toNat_natCast,Int.reduceToNat,Int.zero_add,Int.add_zero,Nat.add_zero,Nat.zero_add,Bool.true_and,Bool.and_true,Bool.false_and,Bool.and_false,Bool.true_or,Bool.or_true,Bool.false_or,Bool.or_false,Bool.not_true,Bool.not_false,Bool.false_eq_true,Bool.true_eq_false,reduceCtorEq,not_true_eq_false,not_false_eq_true,if_true,if_false,decide_true,decide_false]; rw [List.take_length]; generalize s.drop (i + 1)=r at he ⊢; generalize s.getD i 0=c at he h1 ⊢; have h92:¬ c.toNat < 32:=by omega
 have Xo:¬ c.toNat≠92:=by omega
 match r with
 | []=>simp [chr,h92,Xo]
 | [d]=>
  by_cases d5:d=120
  · subst d5; simp [chr,h92,Xo]
  ·
   have:d.toNat≠120:=fun h=>d5 (UInt8.toNat_inj.1 h); simp only [chr,h92,Xo,if_false] at he ⊢; simp [d5]; revert he
   repeat' split
   all_goals simp
 | [d,a]=>
  by_cases d5:d=120
  ·
   subst d5; simp [chr,h92,Xo,idx]; rw [Uv]; cases ha:EO a with
   | none=>simp [CJ ha]
   | some x=>simp [zJ ha]
  ·
   have:d.toNat≠120:=fun h=>d5 (UInt8.toNat_inj.1 h); have d5':¬ (d.toNat:Int)=120:=by omega
   simp only [chr,h92,Xo,if_false] at he ⊢; simp [d5,idx,d5']; revert he
   repeat' split
   all_goals simp
 | d :: a :: b :: r=>
  simp only [chr,h92,Xo,if_false] at he ⊢; have hl:¬ ((r.length:Int) + 1 + 1 + 1=2):=by omega
  simp [hl]; revert he
  repeat' split
  all_goals simp
def txt :Nat→Str→Nat→Str→Str × Nat × Int
 | _,_,_,[]=>([],0,4)
 | k + 1,b,n,_ :: r=>txt k b n r
 | 0,b,n,c :: r=>if c.toNat=34 then (if 4096 < b.length then ([],0,3) else (b,n + 1,0)) else
   if (chr (c :: r)).2.2=0 then txt ((chr (c :: r)).2.1 - 1) (b ++ [(chr (c :: r)).1]) (n + (chr (c :: r)).2.1) r else ([],0,(chr (c :: r)).2.2)
theorem Rs :∀ (k:Nat) (b:Str) (n:Nat) (r:Str),k≤r.length→txt k b n r=txt 0 b n (r.drop k)
 | 0,b,n,r,_=>by simp
 | k + 1,b,n,[],h=>by simp at h
 | k + 1,b,n,c :: r,h=>by rw [txt,Rs k b n r (by simpa using h)]; simp
theorem Ls (b:Str) (n:Nat) (c:UInt8) (r:Str):txt 0 b n (c :: r)=if c.toNat=34 then (if 4096 < b.length then ([],0,3) else (b,n + 1,0)) else
  if (chr (c :: r)).2.2=0 then txt 0 (b ++ [(chr (c :: r)).1]) (n + (chr (c :: r)).2.1) ((c :: r).drop (chr (c :: r)).2.1) else ([],0,(chr (c :: r)).2.2):=by
 rw [txt]; split
 · rfl
 ·
  split
  ·
   rename_i h; obtain ⟨h1,h2⟩:=VY h; rw [Rs _ _ _ _ (by simp at h2; omega)]; congr 1; obtain ⟨m,hm⟩:∃ m,(chr (c :: r)).2.1=m + 1:=⟨(chr (c :: r)).2.1 - 1,by omega⟩; rw [hm]; simp
  · rfl
def Uh (a:Nat) (x:Str × Nat × Int):aA × Int × Int:=if x.2.2=0 then (⟨3,x.1,a⟩,((a + x.2.1:Nat):Int),0) else (⟨0,[],0⟩,0,x.2.2)
def WL (x:Str × Nat × Int):aA × Int × Int:=if x.2.2=0 then (⟨3,x.1,0⟩,(x.2.1:Int),0) else (⟨0,[],0⟩,0,x.2.2)
theorem acy {l:Str} (h:(chr l).2.2≠0):(chr l).2.1=0:=by
 revert h; unfold chr
 repeat' split
 all_goals simp
theorem XH {c:UInt8} {r:Str} (h1:¬ c.toNat < 32) (h2:c.toNat≠92):chr (c :: r)=(c,1,0):=by
 show (if c.toNat < 32 then _ else _)=_; rw [if_neg h1,if_pos h2]
theorem acw {c:UInt8} {r:Str} (h1:c.toNat < 32):chr (c :: r)=(0,0,5):=by
 show (if c.toNat < 32 then _ else _)=_; rw [if_pos h1]
theorem Mt {s:Str} (hs:s.length≤2147483648) (a:Nat):∀ (k i:Nat) (b:Str),s.length < k + i→i≤s.length→a≤i→b.length≤i→
  ou s (a:Int) k (i:Int) b=some (Uh a (txt 0 b (i - a) (s.drop i)))
 | 0,i,b,h,h',_,_=>by omega
 | k + 1,i,b,h,h',ha,hb=>by
  rw [ou]; by_cases hi:i < s.length
  ·
   rw [getD_drop hi,Ls]; simp (disch:=omega) only [dflt,aT,aX,bD,aR,aY,if_pos,if_neg,ak,aC,aD,aF,aG,aJ,aI,aH,decide_eq_true_eq,beq_iff_eq,bne_iff_ne,ne_eq,Bool.and_eq_true,Bool.or_eq_true,Bool.not_eq_true',Bool.not_eq_true,decide_eq_false_iff_not,beq_eq_false_iff_ne,bne_eq_false_iff_eq,Int.toNat_add,Int.toNat_natCast,Int.reduceToNat,Int.zero_add,Int.add_zero,Nat.add_zero,Nat.zero_add,Bool.true_and,Bool.and_true,Bool.false_and,Bool.and_false,Bool.true_or,Bool.or_true,Bool.false_or,Bool.or_false,Bool.not_true,Bool.not_false,Bool.false_eq_true,Bool.true_eq_false,reduceCtorEq,not_true_eq_false,not_false_eq_true,if_true,if_false,decide_true,decide_false]; have hd:=getD_drop hi; by_cases Kw:(s.getD i 0).toNat=34
   ·
    simp (disch:=omega) only [aT,aX,bD,aR,aY,if_pos,if_neg,ak,aC,aD,aF,aG,aJ,aI,aH,decide_eq_true_eq,beq_iff_eq,bne_iff_ne,ne_eq,Bool.and_eq_true,Bool.or_eq_true,Bool.not_eq_true',Bool.not_eq_true,decide_eq_false_iff_not,beq_eq_false_iff_ne,bne_eq_false_iff_eq,Int.toNat_add,Int.toNat_natCast,Int.reduceToNat,Int.zero_add,Int.add_zero,Nat.add_zero,Nat.zero_add,Bool.true_and,Bool.and_true,Bool.false_and,Bool.and_false,Bool.true_or,Bool.or_true,Bool.false_or,Bool.or_false,Bool.not_true,Bool.not_false,Bool.false_eq_true,Bool.true_eq_false,reduceCtorEq,not_true_eq_false,not_false_eq_true,if_true,if_false,decide_true,decide_false]; by_cases hl:4096 < b.length
    · simp (disch:=omega) only [aT,aX,bD,aR,aY,if_pos,if_neg,ak,aC,aD,aF,aG,aJ,aI,aH,decide_eq_true_eq,beq_iff_eq,bne_iff_ne,ne_eq,Bool.and_eq_true,Bool.or_eq_true,Bool.not_eq_true',Bool.not_eq_true,decide_eq_false_iff_not,beq_eq_false_iff_ne,bne_eq_false_iff_eq,Int.toNat_add,Int.toNat_natCast,Int.reduceToNat,Int.zero_add,Int.add_zero,Nat.add_zero,Nat.zero_add,Bool.true_and,Bool.and_true,Bool.false_and,Bool.and_false,Bool.true_or,Bool.or_true,Bool.false_or,Bool.or_false,Bool.not_true,Bool.not_false,Bool.false_eq_true,Bool.true_eq_false,reduceCtorEq,not_true_eq_false,not_false_eq_true,if_true,if_false,decide_true,decide_false]; rfl
    · simp (disch:=omega) only [aT,aX,bD,aR,aY,if_pos,if_neg,ak,aC,aD,aF,aG,aJ,aI,aH,decide_eq_true_eq,beq_iff_eq,bne_iff_ne,ne_eq,Bool.and_eq_true,Bool.or_eq_true,Bool.not_eq_true',Bool.not_eq_true,decide_eq_false_iff_not,beq_eq_false_iff_ne,bne_eq_false_iff_eq,Int.toNat_add,Int.toNat_natCast,Int.reduceToNat,Int.zero_add,Int.add_zero,Nat.add_zero,Nat.zero_add,Bool.true_and,Bool.and_true,Bool.false_and,Bool.and_false,Bool.true_or,Bool.or_true,Bool.false_or,Bool.or_false,Bool.not_true,Bool.not_false,Bool.false_eq_true,Bool.true_eq_false,reduceCtorEq,not_true_eq_false,not_false_eq_true,if_true,if_false,decide_true,decide_false]; simp only [Uh,if_true]; congr 4; omega
   ·
    simp (disch:=omega) only [aT,aX,bD,aR,aY,if_pos,if_neg,ak,aC,aD,aF,aG,aJ,aI,aH,decide_eq_true_eq,beq_iff_eq,bne_iff_ne,ne_eq,Bool.and_eq_true,Bool.or_eq_true,Bool.not_eq_true',Bool.not_eq_true,decide_eq_false_iff_not,beq_eq_false_iff_ne,bne_eq_false_iff_eq,Int.toNat_add,Int.toNat_natCast,Int.reduceToNat,Int.zero_add,Int.add_zero,Nat.add_zero,Nat.zero_add,Bool.true_and,Bool.and_true,Bool.false_and,Bool.and_false,Bool.true_or,Bool.or_true,Bool.false_or,Bool.or_false,Bool.not_true,Bool.not_false,Bool.false_eq_true,Bool.true_eq_false,reduceCtorEq,not_true_eq_false,not_false_eq_true,if_true,if_false,decide_true,decide_false]; by_cases h92:(s.getD i 0).toNat=92
    ·
     simp (disch:=omega) only [ab6 (by omega) hi h92,aT,aX,bD,aR,aY,if_pos,if_neg,ak,aC,aD,aF,aG,aJ,aI,aH,decide_eq_true_eq,beq_iff_eq,bne_iff_ne,ne_eq,Bool.and_eq_true,Bool.or_eq_true,Bool.not_eq_true',Bool.not_eq_true,decide_eq_false_iff_not,beq_eq_false_iff_ne,bne_eq_false_iff_eq,Int.toNat_add,Int.toNat_natCast,Int.reduceToNat,Int.zero_add,Int.add_zero,Nat.add_zero,Nat.zero_add,Bool.true_and,Bool.and_true,Bool.false_and,Bool.and_false,Bool.true_or,Bool.or_true,Bool.false_or,Bool.or_false,Bool.not_true,Bool.not_false,Bool.false_eq_true,Bool.true_eq_false,reduceCtorEq,not_true_eq_false,not_false_eq_true,if_true,if_false,decide_true,decide_false]; rw [hd]; by_cases he:(chr (s.getD i 0 :: s.drop (i + 1))).2.2=0
     ·
      obtain ⟨n1,n2⟩:=VY he; rw [←hd] at n2; rw [List.length_drop] at n2; have happ:app b [(chr (s.getD i 0 :: s.drop (i + 1))).1]=some (b ++ [(chr (s.getD i 0 :: s.drop (i + 1))).1]):=aR (by simp [uU]; omega); rw [←hd] at n1 he happ ⊢; simp (disch:=omega) only [he,happ,aT,aX,bD,aR,aY,if_pos,if_neg,ak,aC,aD,aF,aG,aJ,aI,aH,decide_eq_true_eq,beq_iff_eq,bne_iff_ne,ne_eq,Bool.and_eq_true,Bool.or_eq_true,Bool.not_eq_true',Bool.not_eq_true,decide_eq_false_iff_not,beq_eq_false_iff_ne,bne_eq_false_iff_eq,Int.toNat_add,Int.toNat_natCast,Int.reduceToNat,Int.zero_add,Int.add_zero,Nat.add_zero,Nat.zero_add,Bool.true_and,Bool.and_true,Bool.false_and,Bool.and_false,Bool.true_or,Bool.or_true,Bool.false_or,Bool.or_false,Bool.not_true,Bool.not_false,Bool.false_eq_true,Bool.true_eq_false,reduceCtorEq,not_true_eq_false,not_false_eq_true,if_true,if_false,decide_true,decide_false]; rw [show (i:Int) + ((chr (s.drop i)).2.1:Int)=((i + (chr (s.drop i)).2.1:Nat):Int) from by omega]; rw [Mt hs a k (i + (chr (s.drop i)).2.1) _ (by omega) (by omega) (by omega) (by simp; omega)]; rw [List.drop_drop]; congr 4; omega
     ·
      rw [←hd] at he ⊢; rw [acy he]; simp (disch:=omega) only [Xg (by omega) hi h92 he,aT,aX,bD,aR,aY,if_pos,if_neg,ak,aC,aD,aF,aG,aJ,aI,aH,decide_eq_true_eq,beq_iff_eq,bne_iff_ne,ne_eq,Bool.and_eq_true,Bool.or_eq_true,Bool.not_eq_true',Bool.not_eq_true,decide_eq_false_iff_not,beq_eq_false_iff_ne,bne_eq_false_iff_eq,Int.toNat_add,Int.toNat_natCast,Int.reduceToNat,Int.zero_add,Int.add_zero,Nat.add_zero,Nat.zero_add,Bool.true_and,Bool.and_true,Bool.false_and,Bool.and_false,Bool.true_or,Bool.or_true,Bool.false_or,Bool.or_false,Bool.not_true,Bool.not_false,Bool.false_eq_true,Bool.true_eq_false,reduceCtorEq,not_true_eq_false,not_false_eq_true,if_true,if_false,decide_true,decide_false]; by_cases h4:(chr (s.drop i)).2.2=4
      · simp (disch:=omega) only [h4,aT,aX,bD,aR,aY,if_pos,if_neg,ak,aC,aD,aF,aG,aJ,aI,aH,decide_eq_true_eq,beq_iff_eq,bne_iff_ne,ne_eq,Bool.and_eq_true,Bool.or_eq_true,Bool.not_eq_true',Bool.not_eq_true,decide_eq_false_iff_not,beq_eq_false_iff_ne,bne_eq_false_iff_eq,Int.toNat_add,Int.toNat_natCast,Int.reduceToNat,Int.zero_add,Int.add_zero,Nat.add_zero,Nat.zero_add,Bool.true_and,Bool.and_true,Bool.false_and,Bool.and_false,Bool.true_or,Bool.or_true,Bool.false_or,Bool.or_false,Bool.not_true,Bool.not_false,Bool.false_eq_true,Bool.true_eq_false,reduceCtorEq,not_true_eq_false,not_false_eq_true,if_true,if_false,decide_true,decide_false]; simp [Uh]
      ·
       simp (disch:=omega) only [h4,aT,aX,bD,aR,aY,if_pos,if_neg,ak,aC,aD,aF,aG,aJ,aI,aH,decide_eq_true_eq,beq_iff_eq,bne_iff_ne,ne_eq,Bool.and_eq_true,Bool.or_eq_true,Bool.not_eq_true',Bool.not_eq_true,decide_eq_false_iff_not,beq_eq_false_iff_ne,bne_eq_false_iff_eq,Int.toNat_add,Int.toNat_natCast,Int.reduceToNat,Int.zero_add,Int.add_zero,Nat.add_zero,Nat.zero_add,Bool.true_and,Bool.and_true,Bool.false_and,Bool.and_false,Bool.true_or,Bool.or_true,Bool.false_or,Bool.or_false,Bool.not_true,Bool.not_false,Bool.false_eq_true,Bool.true_eq_false,reduceCtorEq,not_true_eq_false,not_false_eq_true,if_true,if_false,decide_true,decide_false]
       have h5:(chr (s.drop i)).2.2=5:=by
        revert he h4; unfold chr
        repeat' split
        all_goals simp
       simp [Uh,h5]
    ·
     by_cases h32:(s.getD i 0).toNat < 32
     · rw [acw h32]; simp (disch:=omega) only [aT,aX,bD,aR,aY,if_pos,if_neg,ak,aC,aD,aF,aG,aJ,aI,aH,decide_eq_true_eq,beq_iff_eq,bne_iff_ne,ne_eq,Bool.and_eq_true,Bool.or_eq_true,Bool.not_eq_true',Bool.not_eq_true,decide_eq_false_iff_not,beq_eq_false_iff_ne,bne_eq_false_iff_eq,Int.toNat_add,Int.toNat_natCast,Int.reduceToNat,Int.zero_add,Int.add_zero,Nat.add_zero,Nat.zero_add,Bool.true_and,Bool.and_true,Bool.false_and,Bool.and_false,Bool.true_or,Bool.or_true,Bool.false_or,Bool.or_false,Bool.not_true,Bool.not_false,Bool.false_eq_true,Bool.true_eq_false,reduceCtorEq,not_true_eq_false,not_false_eq_true,if_true,if_false,decide_true,decide_false]; rfl
     ·
      rw [XH h32 h92]; have happ:app b [s.getD i 0]=some (b ++ [s.getD i 0]):=aR (by simp [uU]; omega); simp (disch:=omega) only [happ,aT,aX,bD,aR,aY,if_pos,if_neg,ak,aC,aD,aF,aG,aJ,aI,aH,decide_eq_true_eq,beq_iff_eq,bne_iff_ne,ne_eq,Bool.and_eq_true,Bool.or_eq_true,Bool.not_eq_true',Bool.not_eq_true,decide_eq_false_iff_not,beq_eq_false_iff_ne,bne_eq_false_iff_eq,Int.toNat_add,Int.toNat_natCast,Int.reduceToNat,Int.zero_add,Int.add_zero,Nat.add_zero,Nat.zero_add,Bool.true_and,Bool.and_true,Bool.false_and,Bool.and_false,Bool.true_or,Bool.or_true,Bool.false_or,Bool.or_false,Bool.not_true,Bool.not_false,Bool.false_eq_true,Bool.true_eq_false,reduceCtorEq,not_true_eq_false,not_false_eq_true,if_true,if_false,decide_true,decide_false]; rw [show (i:Int) + 1=((i + 1:Nat):Int) from rfl,Mt hs a k (i + 1) _ (by omega) (by omega) (by omega) (by simp; omega)]; simp only [List.drop_succ_cons,List.drop_zero]; rw [show i + 1 - a=i - a + 1 from by omega]
  ·
   have e:i=s.length:=by omega
   rw [e]; simp (disch:=omega) only [aT,aX,bD,aR,aY,if_pos,if_neg,ak,aC,aD,aF,aG,aJ,aI,aH,decide_eq_true_eq,beq_iff_eq,bne_iff_ne,ne_eq,Bool.and_eq_true,Bool.or_eq_true,Bool.not_eq_true',Bool.not_eq_true,decide_eq_false_iff_not,beq_eq_false_iff_ne,bne_eq_false_iff_eq,Int.toNat_add,Int.toNat_natCast,Int.reduceToNat,Int.zero_add,Int.add_zero,Nat.add_zero,Nat.zero_add,Bool.true_and,Bool.and_true,Bool.false_and,Bool.and_false,Bool.true_or,Bool.or_true,Bool.false_or,Bool.or_false,Bool.not_true,Bool.not_false,Bool.false_eq_true,Bool.true_eq_false,reduceCtorEq,not_true_eq_false,not_false_eq_true,if_true,if_false,decide_true,decide_false]; simp [txt,Uh]
theorem Zq {s:Str} (hs:s.length≤2147483648) {a:Nat} (h:a < s.length):Am s (a:Int)=some (Uh a (txt 0 [] 1 (s.drop (a + 1)))):=by
 unfold Am; simp (disch:=omega) only [aT,aX,bD,aR,aY,if_pos,if_neg,ak,aC,aD,aF,aG,aJ,aI,aH,decide_eq_true_eq,beq_iff_eq,bne_iff_ne,ne_eq,Bool.and_eq_true,Bool.or_eq_true,Bool.not_eq_true',Bool.not_eq_true,decide_eq_false_iff_not,beq_eq_false_iff_ne,bne_eq_false_iff_eq,Int.toNat_add,Int.toNat_natCast,Int.reduceToNat,Int.zero_add,Int.add_zero,Nat.add_zero,Nat.zero_add,Bool.true_and,Bool.and_true,Bool.false_and,Bool.and_false,Bool.true_or,Bool.or_true,Bool.false_or,Bool.or_false,Bool.not_true,Bool.not_false,Bool.false_eq_true,Bool.true_eq_false,reduceCtorEq,not_true_eq_false,not_false_eq_true,if_true,if_false,decide_true,decide_false]; rw [show (a:Int) + 1=((a + 1:Nat):Int) from rfl,Mt hs a BIG (a + 1) [] (by unfold BIG; omega) (by omega) (by omega) (by simp)]; rw [show a + 1 - a=1 from by omega]
theorem RP {s:Str} (hs:s.length≤2147483648) (a:Nat):∀ (k i:Nat) (b:Str),s.length < k + i→i≤s.length→a≤i→b.length≤i→
  uN s (a:Int) k b (i:Int)=some (WL (txt 0 b (i - a) (s.drop i)))
 | 0,i,b,h,h',_,_=>by omega
 | k + 1,i,b,h,h',ha,hb=>by
  rw [uN]; by_cases hi:i < s.length
  ·
   rw [getD_drop hi,Ls]; simp (disch:=omega) only [dflt,aT,aX,bD,aR,aY,if_pos,if_neg,ak,aC,aD,aF,aG,aJ,aI,aH,decide_eq_true_eq,beq_iff_eq,bne_iff_ne,ne_eq,Bool.and_eq_true,Bool.or_eq_true,Bool.not_eq_true',Bool.not_eq_true,decide_eq_false_iff_not,beq_eq_false_iff_ne,bne_eq_false_iff_eq,Int.toNat_add,Int.toNat_natCast,Int.reduceToNat,Int.zero_add,Int.add_zero,Nat.add_zero,Nat.zero_add,Bool.true_and,Bool.and_true,Bool.false_and,Bool.and_false,Bool.true_or,Bool.or_true,Bool.false_or,Bool.or_false,Bool.not_true,Bool.not_false,Bool.false_eq_true,Bool.true_eq_false,reduceCtorEq,not_true_eq_false,not_false_eq_true,if_true,if_false,decide_true,decide_false]; have hd:=getD_drop hi; by_cases Kw:(s.getD i 0).toNat=34
   ·
    simp (disch:=omega) only [aT,aX,bD,aR,aY,if_pos,if_neg,ak,aC,aD,aF,aG,aJ,aI,aH,decide_eq_true_eq,beq_iff_eq,bne_iff_ne,ne_eq,Bool.and_eq_true,Bool.or_eq_true,Bool.not_eq_true',Bool.not_eq_true,decide_eq_false_iff_not,beq_eq_false_iff_ne,bne_eq_false_iff_eq,Int.toNat_add,Int.toNat_natCast,Int.reduceToNat,Int.zero_add,Int.add_zero,Nat.add_zero,Nat.zero_add,Bool.true_and,Bool.and_true,Bool.false_and,Bool.and_false,Bool.true_or,Bool.or_true,Bool.false_or,Bool.or_false,Bool.not_true,Bool.not_false,Bool.false_eq_true,Bool.true_eq_false,reduceCtorEq,not_true_eq_false,not_false_eq_true,if_true,if_false,decide_true,decide_false]; by_cases hl:4096 < b.length
    · simp (disch:=omega) only [aT,aX,bD,aR,aY,if_pos,if_neg,ak,aC,aD,aF,aG,aJ,aI,aH,decide_eq_true_eq,beq_iff_eq,bne_iff_ne,ne_eq,Bool.and_eq_true,Bool.or_eq_true,Bool.not_eq_true',Bool.not_eq_true,decide_eq_false_iff_not,beq_eq_false_iff_ne,bne_eq_false_iff_eq,Int.toNat_add,Int.toNat_natCast,Int.reduceToNat,Int.zero_add,Int.add_zero,Nat.add_zero,Nat.zero_add,Bool.true_and,Bool.and_true,Bool.false_and,Bool.and_false,Bool.true_or,Bool.or_true,Bool.false_or,Bool.or_false,Bool.not_true,Bool.not_false,Bool.false_eq_true,Bool.true_eq_false,reduceCtorEq,not_true_eq_false,not_false_eq_true,if_true,if_false,decide_true,decide_false]; rfl
    · simp (disch:=omega) only [aT,aX,bD,aR,aY,if_pos,if_neg,ak,aC,aD,aF,aG,aJ,aI,aH,decide_eq_true_eq,beq_iff_eq,bne_iff_ne,ne_eq,Bool.and_eq_true,Bool.or_eq_true,Bool.not_eq_true',Bool.not_eq_true,decide_eq_false_iff_not,beq_eq_false_iff_ne,bne_eq_false_iff_eq,Int.toNat_add,Int.toNat_natCast,Int.reduceToNat,Int.zero_add,Int.add_zero,Nat.add_zero,Nat.zero_add,Bool.true_and,Bool.and_true,Bool.false_and,Bool.and_false,Bool.true_or,Bool.or_true,Bool.false_or,Bool.or_false,Bool.not_true,Bool.not_false,Bool.false_eq_true,Bool.true_eq_false,reduceCtorEq,not_true_eq_false,not_false_eq_true,if_true,if_false,decide_true,decide_false]; simp only [WL,if_true]; congr 3; omega
   ·
    simp (disch:=omega) only [abT (by omega) hi,aT,aX,bD,aR,aY,if_pos,if_neg,ak,aC,aD,aF,aG,aJ,aI,aH,decide_eq_true_eq,beq_iff_eq,bne_iff_ne,ne_eq,Bool.and_eq_true,Bool.or_eq_true,Bool.not_eq_true',Bool.not_eq_true,decide_eq_false_iff_not,beq_eq_false_iff_ne,bne_eq_false_iff_eq,Int.toNat_add,Int.toNat_natCast,Int.reduceToNat,Int.zero_add,Int.add_zero,Nat.add_zero,Nat.zero_add,Bool.true_and,Bool.and_true,Bool.false_and,Bool.and_false,Bool.true_or,Bool.or_true,Bool.false_or,Bool.or_false,Bool.not_true,Bool.not_false,Bool.false_eq_true,Bool.true_eq_false,reduceCtorEq,not_true_eq_false,not_false_eq_true,if_true,if_false,decide_true,decide_false]; rw [←hd]; by_cases he:(chr (s.drop i)).2.2=0
    ·
     obtain ⟨n1,n2⟩:=VY he; rw [List.length_drop] at n2; have happ:app b [(chr (s.drop i)).1]=some (b ++ [(chr (s.drop i)).1]):=aR (by simp [uU]; omega); simp (disch:=omega) only [he,happ,aT,aX,bD,aR,aY,if_pos,if_neg,ak,aC,aD,aF,aG,aJ,aI,aH,decide_eq_true_eq,beq_iff_eq,bne_iff_ne,ne_eq,Bool.and_eq_true,Bool.or_eq_true,Bool.not_eq_true',Bool.not_eq_true,decide_eq_false_iff_not,beq_eq_false_iff_ne,bne_eq_false_iff_eq,Int.toNat_add,Int.toNat_natCast,Int.reduceToNat,Int.zero_add,Int.add_zero,Nat.add_zero,Nat.zero_add,Bool.true_and,Bool.and_true,Bool.false_and,Bool.and_false,Bool.true_or,Bool.or_true,Bool.false_or,Bool.or_false,Bool.not_true,Bool.not_false,Bool.false_eq_true,Bool.true_eq_false,reduceCtorEq,not_true_eq_false,not_false_eq_true,if_true,if_false,decide_true,decide_false]; rw [show (i:Int) + ((chr (s.drop i)).2.1:Int)=((i + (chr (s.drop i)).2.1:Nat):Int) from by omega]; rw [RP hs a k (i + (chr (s.drop i)).2.1) _ (by omega) (by omega) (by omega) (by simp; omega)]; rw [List.drop_drop]; congr 4; omega
    ·
     simp (disch:=omega) only [he,aT,aX,bD,aR,aY,if_pos,if_neg,ak,aC,aD,aF,aG,aJ,aI,aH,decide_eq_true_eq,beq_iff_eq,bne_iff_ne,ne_eq,Bool.and_eq_true,Bool.or_eq_true,Bool.not_eq_true',Bool.not_eq_true,decide_eq_false_iff_not,beq_eq_false_iff_ne,bne_eq_false_iff_eq,Int.toNat_add,Int.toNat_natCast,Int.reduceToNat,Int.zero_add,Int.add_zero,Nat.add_zero,Nat.zero_add,Bool.true_and,Bool.and_true,Bool.false_and,Bool.and_false,Bool.true_or,Bool.or_true,Bool.false_or,Bool.or_false,Bool.not_true,Bool.not_false,Bool.false_eq_true,Bool.true_eq_false,reduceCtorEq,not_true_eq_false,not_false_eq_true,if_true,if_false,decide_true,decide_false]; simp [WL,he]
  ·
   have e:i=s.length:=by omega
   rw [e]; simp (disch:=omega) only [aT,aX,bD,aR,aY,if_pos,if_neg,ak,aC,aD,aF,aG,aJ,aI,aH,decide_eq_true_eq,beq_iff_eq,bne_iff_ne,ne_eq,Bool.and_eq_true,Bool.or_eq_true,Bool.not_eq_true',Bool.not_eq_true,decide_eq_false_iff_not,beq_eq_false_iff_ne,bne_eq_false_iff_eq,Int.toNat_add,Int.toNat_natCast,Int.reduceToNat,Int.zero_add,Int.add_zero,Nat.add_zero,Nat.zero_add,Bool.true_and,Bool.and_true,Bool.false_and,Bool.and_false,Bool.true_or,Bool.or_true,Bool.false_or,Bool.or_false,Bool.not_true,Bool.not_false,Bool.false_eq_true,Bool.true_eq_false,reduceCtorEq,not_true_eq_false,not_false_eq_true,if_true,if_false,decide_true,decide_false]; simp [txt,WL]
theorem YX {s:Str} (hs:s.length≤2147483648) {a:Nat} (h:a < s.length):Ey s (a:Int)=some (WL (txt 0 [] 1 (s.drop (a + 1)))):=by
 unfold Ey; simp (disch:=omega) only [aT,aX,bD,aR,aY,if_pos,if_neg,ak,aC,aD,aF,aG,aJ,aI,aH,decide_eq_true_eq,beq_iff_eq,bne_iff_ne,ne_eq,Bool.and_eq_true,Bool.or_eq_true,Bool.not_eq_true',Bool.not_eq_true,decide_eq_false_iff_not,beq_eq_false_iff_ne,bne_eq_false_iff_eq,Int.toNat_add,Int.toNat_natCast,Int.reduceToNat,Int.zero_add,Int.add_zero,Nat.add_zero,Nat.zero_add,Bool.true_and,Bool.and_true,Bool.false_and,Bool.and_false,Bool.true_or,Bool.or_true,Bool.false_or,Bool.or_false,Bool.not_true,Bool.not_false,Bool.false_eq_true,Bool.true_eq_false,reduceCtorEq,not_true_eq_false,not_false_eq_true,if_true,if_false,decide_true,decide_false]; rw [show (a:Int) + 1=((a + 1:Nat):Int) from rfl,RP hs a BIG (a + 1) [] (by unfold BIG; omega) (by omega) (by omega) (by simp)]; rw [show a + 1 - a=1 from by omega]
def val (l:Str):Nat:=l.foldl (fun n c=>10 * n + (c.toNat - 48)) 0
def BX :Nat:=9007199254740992
theorem YF (l:Str):∀ n:Nat,n≤l.foldl (fun n (c:UInt8)=>10 * n + (c.toNat - 48)) n:=by
 induction l with
 | nil=>intro n; simp
 | cons c l ih=>intro n; simp only [List.foldl_cons]; exact Nat.le_trans (by omega) (ih _)
theorem Sg {s:Str} (hs:s.length≤2147483648) (hd:∀ c∈s,isDigit c=true):∀ (k i n:Nat),s.length < k + i→i≤s.length→n≤10 * BX + 9→
  oU s k (n:Int) (i:Int)=some (decide (BX < (s.drop i).foldl (fun n (c:UInt8)=>10 * n + (c.toNat - 48)) n))
 | 0,i,n,h,h',_=>by omega
 | k + 1,i,n,h,h',hn=>by
  unfold BX at hn; rw [oU]; by_cases hi:i < s.length
  ·
   have hdi:=hd s[i] (List.getElem_mem hi); rw [nP] at hdi; have e:=getD_drop hi; have e0:s.getD i 0=s[i]:=by rw [List.getD_eq_getElem?_getD,List.getElem?_eq_getElem hi,Option.getD_some]
   by_cases hm:n≤9007199254740992
   ·
    simp (disch:=omega) only [dflt,aT,aX,bD,aR,aY,if_pos,if_neg,ak,aC,aD,aF,aG,aJ,aI,aH,decide_eq_true_eq,beq_iff_eq,bne_iff_ne,ne_eq,Bool.and_eq_true,Bool.or_eq_true,Bool.not_eq_true',Bool.not_eq_true,decide_eq_false_iff_not,beq_eq_false_iff_ne,bne_eq_false_iff_eq,Int.toNat_add,Int.toNat_natCast,Int.reduceToNat,Int.zero_add,Int.add_zero,Nat.add_zero,Nat.zero_add,Bool.true_and,Bool.and_true,Bool.false_and,Bool.and_false,Bool.true_or,Bool.or_true,Bool.false_or,Bool.or_false,Bool.not_true,Bool.not_false,Bool.false_eq_true,Bool.true_eq_false,reduceCtorEq,not_true_eq_false,not_false_eq_true,if_true,if_false,decide_true,decide_false]; rw [e,e0,KS (by simpa using hdi.1)]; have h48:(48:UInt8).toNat=48:=rfl; rw [h48]; simp (disch:=omega) only [aT,aX,bD,aR,aY,if_pos,if_neg,ak,aC,aD,aF,aG,aJ,aI,aH,decide_eq_true_eq,beq_iff_eq,bne_iff_ne,ne_eq,Bool.and_eq_true,Bool.or_eq_true,Bool.not_eq_true',Bool.not_eq_true,decide_eq_false_iff_not,beq_eq_false_iff_ne,bne_eq_false_iff_eq,Int.toNat_add,Int.toNat_natCast,Int.reduceToNat,Int.zero_add,Int.add_zero,Nat.add_zero,Nat.zero_add,Bool.true_and,Bool.and_true,Bool.false_and,Bool.and_false,Bool.true_or,Bool.or_true,Bool.false_or,Bool.or_false,Bool.not_true,Bool.not_false,Bool.false_eq_true,Bool.true_eq_false,reduceCtorEq,not_true_eq_false,not_false_eq_true,if_true,if_false,decide_true,decide_false]; rw [show 10 * (n:Int) + ((s[i].toNat - 48:Nat):Int)=((10 * n + (s[i].toNat - 48):Nat):Int) from by omega,show (i:Int) + 1=((i + 1:Nat):Int) from rfl]; rw [Sg hs hd k (i + 1) _ (by omega) (by omega) (by unfold BX; omega)]
    rw [List.foldl_cons]
   ·
    simp (disch:=omega) only [aT,aX,bD,aR,aY,if_pos,if_neg,ak,aC,aD,aF,aG,aJ,aI,aH,decide_eq_true_eq,beq_iff_eq,bne_iff_ne,ne_eq,Bool.and_eq_true,Bool.or_eq_true,Bool.not_eq_true',Bool.not_eq_true,decide_eq_false_iff_not,beq_eq_false_iff_ne,bne_eq_false_iff_eq,Int.toNat_add,Int.toNat_natCast,Int.reduceToNat,Int.zero_add,Int.add_zero,Nat.add_zero,Nat.zero_add,Bool.true_and,Bool.and_true,Bool.false_and,Bool.and_false,Bool.true_or,Bool.or_true,Bool.false_or,Bool.or_false,Bool.not_true,Bool.not_false,Bool.false_eq_true,Bool.true_eq_false,reduceCtorEq,not_true_eq_false,not_false_eq_true,if_true,if_false,decide_true,decide_false]; have:=YF (s.drop i) n; have h2:BX < (s.drop i).foldl (fun n (c:UInt8)=>10 * n + (c.toNat - 48)) n:=by unfold BX; omega
    simp [h2]; omega
  ·
   have e:i=s.length:=by omega
   rw [e]; simp (disch:=omega) only [aT,aX,bD,aR,aY,if_pos,if_neg,ak,aC,aD,aF,aG,aJ,aI,aH,decide_eq_true_eq,beq_iff_eq,bne_iff_ne,ne_eq,Bool.and_eq_true,Bool.or_eq_true,Bool.not_eq_true',Bool.not_eq_true,decide_eq_false_iff_not,beq_eq_false_iff_ne,bne_eq_false_iff_eq,Int.toNat_add,Int.toNat_natCast,Int.reduceToNat,Int.zero_add,Int.add_zero,Nat.add_zero,Nat.zero_add,Bool.true_and,Bool.and_true,Bool.false_and,Bool.and_false,Bool.true_or,Bool.or_true,Bool.false_or,Bool.or_false,Bool.not_true,Bool.not_false,Bool.false_eq_true,Bool.true_eq_false,reduceCtorEq,not_true_eq_false,not_false_eq_true,if_true,if_false,decide_true,decide_false]; simp [BX]; omega
theorem Zv {s:Str} (hs:s.length≤2147483648) (hd:∀ c∈s,isDigit c=true):Br s=some (decide (BX < val s)):=by
 have:=Sg hs hd BIG 0 0 (by unfold BIG; omega) (by omega) (by omega); rw [List.drop_zero] at this; exact this
theorem Xx (l:Str):∀ n:Nat,n * 10 ^ l.length≤l.foldl (fun n (c:UInt8)=>10 * n + (c.toNat - 48)) n:=by
 induction l with
 | nil=>intro n; simp
 | cons c l ih=>
  intro n; simp only [List.foldl_cons,List.length_cons]; refine Nat.le_trans ?_ (ih _); rw [Nat.pow_succ,←Nat.mul_assoc,Nat.mul_right_comm]; exact Nat.mul_le_mul_right _ (by omega)
theorem YE {c:UInt8} {l:Str} (hc:isDigit c=true) (h0:c.toNat≠48) (hl:16≤l.length):BX < val (c :: l):=by
 rw [nP] at hc; have h1:=Xx l (c.toNat - 48); have h2:10 ^ 16≤10 ^ l.length:=Nat.pow_le_pow_right (by omega) hl; have h3:10 ^ l.length≤(c.toNat - 48) * 10 ^ l.length:=Nat.le_mul_of_pos_left _ (by omega); have h4:val (c :: l)=l.foldl (fun n (c:UInt8)=>10 * n + (c.toNat - 48)) (c.toNat - 48):=by simp [val]
 rw [h4]; have h5:BX < 10 ^ 16:=by decide
 omega
theorem Vo {s:Str} (hs:s.length≤16) (hd:∀ c∈s,isDigit c=true):∀ (k i n:Nat),s.length < k + i→i≤s.length→n < 10 ^ i→
  qY s k (n:Int) (i:Int)=some ((((s.drop i).foldl (fun n (c:UInt8)=>10 * n + (c.toNat - 48)) n:Nat):Int),decide ((s.drop i).foldl (fun n (c:UInt8)=>10 * n + (c.toNat - 48)) n≤BX))
 | 0,i,n,h,h',_=>by omega
 | k + 1,i,n,h,h',hn=>by
  have h16:10 ^ i≤10 ^ 16:=Nat.pow_le_pow_right (by omega) (by omega); have hp:10 ^ 16=10000000000000000:=by decide
  rw [qY]; by_cases hi:i < s.length
  ·
   have hdi:=hd s[i] (List.getElem_mem hi); have hdj:=hdi; rw [nP] at hdj; have e:=getD_drop hi; have e0:s.getD i 0=s[i]:=by rw [List.getD_eq_getElem?_getD,List.getElem?_eq_getElem hi,Option.getD_some]
   rw [e,e0]; simp (disch:=omega) only [dflt,e0,Ce,hdi,aT,aX,bD,aR,aY,if_pos,if_neg,ak,aC,aD,aF,aG,aJ,aI,aH,decide_eq_true_eq,beq_iff_eq,bne_iff_ne,ne_eq,Bool.and_eq_true,Bool.or_eq_true,Bool.not_eq_true',Bool.not_eq_true,decide_eq_false_iff_not,beq_eq_false_iff_ne,bne_eq_false_iff_eq,Int.toNat_add,Int.toNat_natCast,Int.reduceToNat,Int.zero_add,Int.add_zero,Nat.add_zero,Nat.zero_add,Bool.true_and,Bool.and_true,Bool.false_and,Bool.and_false,Bool.true_or,Bool.or_true,Bool.false_or,Bool.or_false,Bool.not_true,Bool.not_false,Bool.false_eq_true,Bool.true_eq_false,reduceCtorEq,not_true_eq_false,not_false_eq_true,if_true,if_false,decide_true,decide_false]; rw [show 10 * (n:Int) + (s[i].toNat:Int) - 48=((10 * n + (s[i].toNat - 48):Nat):Int) from by omega,show (i:Int) + 1=((i + 1:Nat):Int) from rfl]; rw [Vo hs hd k (i + 1) _ (by omega) (by omega) (by rw [Nat.pow_succ]; omega)]; rw [List.foldl_cons]
  ·
   have e:i=s.length:=by omega
   rw [e]; simp (disch:=omega) only [aT,aX,bD,aR,aY,if_pos,if_neg,ak,aC,aD,aF,aG,aJ,aI,aH,decide_eq_true_eq,beq_iff_eq,bne_iff_ne,ne_eq,Bool.and_eq_true,Bool.or_eq_true,Bool.not_eq_true',Bool.not_eq_true,decide_eq_false_iff_not,beq_eq_false_iff_ne,bne_eq_false_iff_eq,Int.toNat_add,Int.toNat_natCast,Int.reduceToNat,Int.zero_add,Int.add_zero,Nat.add_zero,Nat.zero_add,Bool.true_and,Bool.and_true,Bool.false_and,Bool.and_false,Bool.true_or,Bool.or_true,Bool.false_or,Bool.or_false,Bool.not_true,Bool.not_false,Bool.false_eq_true,Bool.true_eq_false,reduceCtorEq,not_true_eq_false,not_false_eq_true,if_true,if_false,decide_true,decide_false]; simp [BX]; omega
theorem abV {s:Str} (hd:∀ c∈s,isDigit c=true) (hne:s≠[]):wY s=if 16 < s.length∨(1 < s.length∧(s.getD 0 0).toNat=48) then some (0,false) else some ((val s:Int),decide (val s≤BX)):=by
 unfold wY; have hb:(s == ([]:Str))=false:=by simpa using hne
 by_cases h1:16 < s.length
 ·
  have:decide ((16:Int) < (s.length:Int))=true:=by simp; omega
  rw [if_pos (show 16 < s.length∨(1 < s.length∧(s.getD 0 0).toNat=48) from .inl h1),hb,this]; rfl
 ·
  have h1':decide ((16:Int) < (s.length:Int))=false:=by simp; omega
  have hz:=Vo (s:=s) (by omega) hd BIG 0 0 (by unfold BIG; omega) (by omega) (by simp); by_cases h2:1 < s.length
  ·
   by_cases h3:(s.getD 0 0).toNat=48
   ·
    rw [if_pos (show 16 < s.length∨(1 < s.length∧(s.getD 0 0).toNat=48) from .inr ⟨h2,h3⟩),hb,h1']; simp (disch:=omega) only [dflt,aT,aX,bD,aR,aY,if_pos,if_neg,ak,aC,aD,aF,aG,aJ,aI,aH,decide_eq_true_eq,beq_iff_eq,bne_iff_ne,ne_eq,Bool.and_eq_true,Bool.or_eq_true,Bool.not_eq_true',Bool.not_eq_true,decide_eq_false_iff_not,beq_eq_false_iff_ne,bne_eq_false_iff_eq,Int.toNat_add,Int.toNat_natCast,Int.reduceToNat,Int.zero_add,Int.add_zero,Nat.add_zero,Nat.zero_add,Bool.true_and,Bool.and_true,Bool.false_and,Bool.and_false,Bool.true_or,Bool.or_true,Bool.false_or,Bool.or_false,Bool.not_true,Bool.not_false,Bool.false_eq_true,Bool.true_eq_false,reduceCtorEq,not_true_eq_false,not_false_eq_true,if_true,if_false,decide_true,decide_false]
   ·
    rw [if_neg (show ¬ (16 < s.length∨(1 < s.length∧(s.getD 0 0).toNat=48)) from by omega),hb,h1']; simp (disch:=omega) only [dflt,aT,aX,bD,aR,aY,if_pos,if_neg,ak,aC,aD,aF,aG,aJ,aI,aH,decide_eq_true_eq,beq_iff_eq,bne_iff_ne,ne_eq,Bool.and_eq_true,Bool.or_eq_true,Bool.not_eq_true',Bool.not_eq_true,decide_eq_false_iff_not,beq_eq_false_iff_ne,bne_eq_false_iff_eq,Int.toNat_add,Int.toNat_natCast,Int.reduceToNat,Int.zero_add,Int.add_zero,Nat.add_zero,Nat.zero_add,Bool.true_and,Bool.and_true,Bool.false_and,Bool.and_false,Bool.true_or,Bool.or_true,Bool.false_or,Bool.or_false,Bool.not_true,Bool.not_false,Bool.false_eq_true,Bool.true_eq_false,reduceCtorEq,not_true_eq_false,not_false_eq_true,if_true,if_false,decide_true,decide_false]; exact hz
  ·
   rw [if_neg (show ¬ (16 < s.length∨(1 < s.length∧(s.getD 0 0).toNat=48)) from by omega),hb,h1']; simp (disch:=omega) only [aT,aX,bD,aR,aY,if_pos,if_neg,ak,aC,aD,aF,aG,aJ,aI,aH,decide_eq_true_eq,beq_iff_eq,bne_iff_ne,ne_eq,Bool.and_eq_true,Bool.or_eq_true,Bool.not_eq_true',Bool.not_eq_true,decide_eq_false_iff_not,beq_eq_false_iff_ne,bne_eq_false_iff_eq,Int.toNat_add,Int.toNat_natCast,Int.reduceToNat,Int.zero_add,Int.add_zero,Nat.add_zero,Nat.zero_add,Bool.true_and,Bool.and_true,Bool.false_and,Bool.and_false,Bool.true_or,Bool.or_true,Bool.false_or,Bool.or_false,Bool.not_true,Bool.not_false,Bool.false_eq_true,Bool.true_eq_false,reduceCtorEq,not_true_eq_false,not_false_eq_true,if_true,if_false,decide_true,decide_false]; exact hz
end Go.Ft
namespace Go.Ft
open Go
def AU (s:Str):Bool:=((s == ([124,124]:Str)) || ((s == ([38,38]:Str)) || ((s == ([61,61]:Str)) || ((s == ([33,61]:Str)) || ((s == ([60,61]:Str)) || ((s == ([62,61]:Str)) || ((s == ([60]:Str)) || ((s == ([62]:Str)) || ((s == ([43]:Str)) || ((s == ([45]:Str)) || ((s == ([42]:Str)) || ((s == ([47]:Str)) || ((s == ([37]:Str)) || ((s == ([33]:Str)) || ((s == ([63]:Str)) || ((s == ([58]:Str)) || ((s == ([46]:Str)) || ((s == ([44]:Str)) || ((s == ([61]:Str)) || ((s == ([40]:Str)) || ((s == ([41]:Str)) || ((s == ([91]:Str)) || ((s == ([93]:Str)) || ((s == ([123]:Str)) || (s == ([125]:Str))))))))))))))))))))))))))
theorem Ua {α:Type} (p q:Bool) (x y:α):(if (p || q)=true then x else y)=if p=true then x else if q=true then x else y:=by cases p <;> simp
theorem Mv (s:Str) (a:Int) (k:Nat) (x:Int):iE s a (k + 1) x=if decide (x < (([2,1]:List Int).length:Int)) then
   ay (idx ([2,1]:List Int) x) fun n1=>
   if decide ((s.length:Int) < (bL (a + n1))) then iE s a k (bL (x + 1))
   else ay (sl s a (bL (a + n1))) fun s1=>if AU s1 then some ((aA.mk 4 s1 a),(bL (a + n1)),0) else iE s a k (bL (x + 1))
  else some ((aA.mk 0 ([]:Str) 0),0,5):=by
 have key:∀ (s1:Str) (x y:Option (aA × Int × Int)),(if AU s1=true then x else y)=_:=fun s1 x y=>by unfold AU; simp only [Ua]; rfl
 rw [iE]; congr 1; congr 1; funext n1; congr 1; congr 1; funext s1; exact (key s1 _ _).symm
attribute [local congr] gK
def opn :Str→Nat
 | a :: b :: _=>if AU [a,b] then 2 else if AU [a] then 1 else 0
 | [a]=>if AU [a] then 1 else 0
 | []=>0
theorem Lv {s:Str} {i:Nat} (h:i + 1 < s.length):(s.take (i + 2)).drop i=[s.getD i 0,s.getD (i + 1) 0]:=by
 rw [List.drop_take,getD_drop (by omega),getD_drop h]; rw [show i + 2 - i=2 from by omega]; rfl
theorem Lx {s:Str} {i:Nat} (h:i < s.length):(s.take (i + 1)).drop i=[s.getD i 0]:=by
 rw [List.drop_take,getD_drop h]; rw [show i + 1 - i=1 from by omega]; rfl
theorem ae5 {s:Str} (hs:s.length≤2147483648) {i:Nat} (h:i < s.length):rD s (i:Int)=
  some (if opn (s.drop i)=0 then (⟨0,[],0⟩,0,5) else (⟨4,(s.drop i).take (opn (s.drop i)),i⟩,((i + opn (s.drop i):Nat):Int),0)):=by
 unfold rD; obtain ⟨m,hm⟩:∃ m,BIG=m + 3:=⟨BIG - 3,rfl⟩; rw [hm,Mv,Mv,Mv]; have e0:idx ([2,1]:List Int) 0=some 2:=rfl; have e1:idx ([2,1]:List Int) 1=some 1:=rfl; have el:(([2,1]:List Int).length:Int)=2:=rfl; rw [el]; by_cases h2:i + 1 < s.length
 ·
  rw [getD_drop h,getD_drop h2]; simp (disch:=omega) only [e0,e1,aT,aX,bD,aR,aY,if_pos,if_neg,ak,aC,aD,aF,aG,aJ,aI,aH,decide_eq_true_eq,beq_iff_eq,bne_iff_ne,ne_eq,Bool.and_eq_true,Bool.or_eq_true,Bool.not_eq_true',Bool.not_eq_true,decide_eq_false_iff_not,beq_eq_false_iff_ne,bne_eq_false_iff_eq,Int.toNat_add,Int.toNat_natCast,Int.reduceToNat,Int.zero_add,Int.add_zero,Nat.add_zero,Nat.zero_add,Bool.true_and,Bool.and_true,Bool.false_and,Bool.and_false,Bool.true_or,Bool.or_true,Bool.false_or,Bool.or_false,Bool.not_true,Bool.not_false,Bool.false_eq_true,Bool.true_eq_false,reduceCtorEq,not_true_eq_false,not_false_eq_true,if_true,if_false,decide_true,decide_false]; rw [Lv h2]; unfold opn; cases h3:AU [s.getD i 0,s.getD (i + 1) 0] with
  | true=>simp (disch:=omega) only [h3,aT,aX,bD,aR,aY,if_pos,if_neg,ak,aC,aD,aF,aG,aJ,aI,aH,decide_eq_true_eq,beq_iff_eq,bne_iff_ne,ne_eq,Bool.and_eq_true,Bool.or_eq_true,Bool.not_eq_true',Bool.not_eq_true,decide_eq_false_iff_not,beq_eq_false_iff_ne,bne_eq_false_iff_eq,Int.toNat_add,Int.toNat_natCast,Int.reduceToNat,Int.zero_add,Int.add_zero,Nat.add_zero,Nat.zero_add,Bool.true_and,Bool.and_true,Bool.false_and,Bool.and_false,Bool.true_or,Bool.or_true,Bool.false_or,Bool.or_false,Bool.not_true,Bool.not_false,Bool.false_eq_true,Bool.true_eq_false,reduceCtorEq,not_true_eq_false,not_false_eq_true,if_true,if_false,decide_true,decide_false]; rfl
  | false=>
   simp (disch:=omega) only [h3,aT,aX,bD,aR,aY,if_pos,if_neg,ak,aC,aD,aF,aG,aJ,aI,aH,decide_eq_true_eq,beq_iff_eq,bne_iff_ne,ne_eq,Bool.and_eq_true,Bool.or_eq_true,Bool.not_eq_true',Bool.not_eq_true,decide_eq_false_iff_not,beq_eq_false_iff_ne,bne_eq_false_iff_eq,Int.toNat_add,Int.toNat_natCast,Int.reduceToNat,Int.zero_add,Int.add_zero,Nat.add_zero,Nat.zero_add,Bool.true_and,Bool.and_true,Bool.false_and,Bool.and_false,Bool.true_or,Bool.or_true,Bool.false_or,Bool.or_false,Bool.not_true,Bool.not_false,Bool.false_eq_true,Bool.true_eq_false,reduceCtorEq,not_true_eq_false,not_false_eq_true,if_true,if_false,decide_true,decide_false]; rw [Lx h]; cases h4:AU [s.getD i 0] with
   | true=>simp (disch:=omega) only [h3,h4,aT,aX,bD,aR,aY,if_pos,if_neg,ak,aC,aD,aF,aG,aJ,aI,aH,decide_eq_true_eq,beq_iff_eq,bne_iff_ne,ne_eq,Bool.and_eq_true,Bool.or_eq_true,Bool.not_eq_true',Bool.not_eq_true,decide_eq_false_iff_not,beq_eq_false_iff_ne,bne_eq_false_iff_eq,Int.toNat_add,Int.toNat_natCast,Int.reduceToNat,Int.zero_add,Int.add_zero,Nat.add_zero,Nat.zero_add,Bool.true_and,Bool.and_true,Bool.false_and,Bool.and_false,Bool.true_or,Bool.or_true,Bool.false_or,Bool.or_false,Bool.not_true,Bool.not_false,Bool.false_eq_true,Bool.true_eq_false,reduceCtorEq,not_true_eq_false,not_false_eq_true,if_true,if_false,decide_true,decide_false]; rfl
   | false=>simp (disch:=omega) only [h3,h4,aT,aX,bD,aR,aY,if_pos,if_neg,ak,aC,aD,aF,aG,aJ,aI,aH,decide_eq_true_eq,beq_iff_eq,bne_iff_ne,ne_eq,Bool.and_eq_true,Bool.or_eq_true,Bool.not_eq_true',Bool.not_eq_true,decide_eq_false_iff_not,beq_eq_false_iff_ne,bne_eq_false_iff_eq,Int.toNat_add,Int.toNat_natCast,Int.reduceToNat,Int.zero_add,Int.add_zero,Nat.add_zero,Nat.zero_add,Bool.true_and,Bool.and_true,Bool.false_and,Bool.and_false,Bool.true_or,Bool.or_true,Bool.false_or,Bool.or_false,Bool.not_true,Bool.not_false,Bool.false_eq_true,Bool.true_eq_false,reduceCtorEq,not_true_eq_false,not_false_eq_true,if_true,if_false,decide_true,decide_false]
 ·
  rw [getD_drop h,List.drop_eq_nil_of_le (by omega:s.length≤i + 1)]; simp (disch:=omega) only [e0,e1,aT,aX,bD,aR,aY,if_pos,if_neg,ak,aC,aD,aF,aG,aJ,aI,aH,decide_eq_true_eq,beq_iff_eq,bne_iff_ne,ne_eq,Bool.and_eq_true,Bool.or_eq_true,Bool.not_eq_true',Bool.not_eq_true,decide_eq_false_iff_not,beq_eq_false_iff_ne,bne_eq_false_iff_eq,Int.toNat_add,Int.toNat_natCast,Int.reduceToNat,Int.zero_add,Int.add_zero,Nat.add_zero,Nat.zero_add,Bool.true_and,Bool.and_true,Bool.false_and,Bool.and_false,Bool.true_or,Bool.or_true,Bool.false_or,Bool.or_false,Bool.not_true,Bool.not_false,Bool.false_eq_true,Bool.true_eq_false,reduceCtorEq,not_true_eq_false,not_false_eq_true,if_true,if_false,decide_true,decide_false]; rw [Lx h]; unfold opn; cases h4:AU [s.getD i 0] with
  | true=>simp (disch:=omega) only [h4,aT,aX,bD,aR,aY,if_pos,if_neg,ak,aC,aD,aF,aG,aJ,aI,aH,decide_eq_true_eq,beq_iff_eq,bne_iff_ne,ne_eq,Bool.and_eq_true,Bool.or_eq_true,Bool.not_eq_true',Bool.not_eq_true,decide_eq_false_iff_not,beq_eq_false_iff_ne,bne_eq_false_iff_eq,Int.toNat_add,Int.toNat_natCast,Int.reduceToNat,Int.zero_add,Int.add_zero,Nat.add_zero,Nat.zero_add,Bool.true_and,Bool.and_true,Bool.false_and,Bool.and_false,Bool.true_or,Bool.or_true,Bool.false_or,Bool.or_false,Bool.not_true,Bool.not_false,Bool.false_eq_true,Bool.true_eq_false,reduceCtorEq,not_true_eq_false,not_false_eq_true,if_true,if_false,decide_true,decide_false]; rfl
  | false=>simp (disch:=omega) only [h4,aT,aX,bD,aR,aY,if_pos,if_neg,ak,aC,aD,aF,aG,aJ,aI,aH,decide_eq_true_eq,beq_iff_eq,bne_iff_ne,ne_eq,Bool.and_eq_true,Bool.or_eq_true,Bool.not_eq_true',Bool.not_eq_true,decide_eq_false_iff_not,beq_eq_false_iff_ne,bne_eq_false_iff_eq,Int.toNat_add,Int.toNat_natCast,Int.reduceToNat,Int.zero_add,Int.add_zero,Nat.add_zero,Nat.zero_add,Bool.true_and,Bool.and_true,Bool.false_and,Bool.and_false,Bool.true_or,Bool.or_true,Bool.false_or,Bool.or_false,Bool.not_true,Bool.not_false,Bool.false_eq_true,Bool.true_eq_false,reduceCtorEq,not_true_eq_false,not_false_eq_true,if_true,if_false,decide_true,decide_false]
theorem agA (s:Str) (a:Int):∀ k:Nat,fq s a (k + 20) 0=ay (idx s a) fun c=>if AU [c] then some 1 else some 0:=by
 intro k; have d0:idx ([60,62,43,45,42,47,37,33,63,58,46,44,61,40,41,91,93,123,125]:Str) 0=some 60:=rfl; have d1:idx ([60,62,43,45,42,47,37,33,63,58,46,44,61,40,41,91,93,123,125]:Str) 1=some 62:=rfl; have d2:idx ([60,62,43,45,42,47,37,33,63,58,46,44,61,40,41,91,93,123,125]:Str) 2=some 43:=rfl; have d3:idx ([60,62,43,45,42,47,37,33,63,58,46,44,61,40,41,91,93,123,125]:Str) 3=some 45:=rfl; have d4:idx ([60,62,43,45,42,47,37,33,63,58,46,44,61,40,41,91,93,123,125]:Str) 4=some 42:=rfl; have d5:idx ([60,62,43,45,42,47,37,33,63,58,46,44,61,40,41,91,93,123,125]:Str) 5=some 47:=rfl; have d6:idx ([60,62,43,45,42,47,37,33,63,58,46,44,61,40,41,91,93,123,125]:Str) 6=some 37:=rfl; have d7:idx ([60,62,43,45,42,47,37,33,63,58,46,44,61,40,41,91,93,123,125]:Str) 7=some 33:=rfl; have d8:idx ([60,62,43,45,42,47,37,33,63,58,46,44,61,40,41,91,93,123,125]:Str) 8=some 63:=rfl; have d9:idx ([60,62,43,45,42,47,37,33,63,58,46,44,61,40,41,91,93,123,125]:Str) 9=some 58:=rfl; have d10:idx ([60,62,43,45,42,47,37,33,63,58,46,44,61,40,41,91,93,123,125]:Str) 10=some 46:=rfl; have d11:idx ([60,62,43,45,42,47,37,33,63,58,46,44,61,40,41,91,93,123,125]:Str) 11=some 44:=rfl; have d12:idx ([60,62,43,45,42,47,37,33,63,58,46,44,61,40,41,91,93,123,125]:Str) 12=some 61:=rfl; have d13:idx ([60,62,43,45,42,47,37,33,63,58,46,44,61,40,41,91,93,123,125]:Str) 13=some 40:=rfl; have d14:idx ([60,62,43,45,42,47,37,33,63,58,46,44,61,40,41,91,93,123,125]:Str) 14=some 41:=rfl; have d15:idx ([60,62,43,45,42,47,37,33,63,58,46,44,61,40,41,91,93,123,125]:Str) 15=some 91:=rfl
 have d16:idx ([60,62,43,45,42,47,37,33,63,58,46,44,61,40,41,91,93,123,125]:Str) 16=some 93:=rfl; have d17:idx ([60,62,43,45,42,47,37,33,63,58,46,44,61,40,41,91,93,123,125]:Str) 17=some 123:=rfl; have d18:idx ([60,62,43,45,42,47,37,33,63,58,46,44,61,40,41,91,93,123,125]:Str) 18=some 125:=rfl; cases hc:idx s a with
 | none=>rw [fq]; simp [hc]
 | some c=>
  have f:∀ n:Nat,((c.toNat:Int) == ((UInt8.ofNat n).toNat:Int))=(c == UInt8.ofNat n):=by
   intro n; by_cases h:c=UInt8.ofNat n
   · subst h; simp
   ·
    have h':¬ c.toNat=(UInt8.ofNat n).toNat:=fun h2=>h (UInt8.toNat_inj.1 h2); have h3:¬ ((c.toNat:Int)=((UInt8.ofNat n).toNat:Int)):=by omega
    simp only [beq_eq_false_iff_ne.2 h,beq_eq_false_iff_ne.2 h3]
  have g:∀ i:Int,0≤i→i < 19→∀ m:Nat,∀ d:UInt8,idx ([60,62,43,45,42,47,37,33,63,58,46,44,61,40,41,91,93,123,125]:Str) i=some d→fq s a (m + 1) i=if c == d then some 1 else fq s a m (i + 1):=by
   intro i h0 h1 m d hd; rw [fq]; simp (disch:=omega) only [hc,hd,aT,aX,bD,aR,aY,if_pos,if_neg,ak,aC,aD,aF,aG,aJ,aI,aH,decide_eq_true_eq,beq_iff_eq,bne_iff_ne,ne_eq,Bool.and_eq_true,Bool.or_eq_true,Bool.not_eq_true',Bool.not_eq_true,decide_eq_false_iff_not,beq_eq_false_iff_ne,bne_eq_false_iff_eq,Int.toNat_add,Int.toNat_natCast,Int.reduceToNat,Int.zero_add,Int.add_zero,Nat.add_zero,Nat.zero_add,Bool.true_and,Bool.and_true,Bool.false_and,Bool.and_false,Bool.true_or,Bool.or_true,Bool.false_or,Bool.or_false,Bool.not_true,Bool.not_false,Bool.false_eq_true,Bool.true_eq_false,reduceCtorEq,not_true_eq_false,not_false_eq_true,if_true,if_false,decide_true,decide_false]; have:=f d.toNat; rw [UInt8.ofNat_toNat] at this; by_cases h:c=d
   · subst h; simp
   ·
    have h':¬ (c.toNat:Int)=(d.toNat:Int):=fun h2=>h (UInt8.toNat_inj.1 (by omega)); simp [h,h']
  have z:∀ m:Nat,fq s a (m + 1) 19=some 0:=by intro m; rw [fq]; simp
  simp only [ak]; rw [g 0 (by omega) (by omega) (k + 19) 60 d0]; simp only [Int.reduceAdd]; rw [g 1 (by omega) (by omega) (k + 18) 62 d1]; simp only [Int.reduceAdd]; rw [g 2 (by omega) (by omega) (k + 17) 43 d2]; simp only [Int.reduceAdd]; rw [g 3 (by omega) (by omega) (k + 16) 45 d3]; simp only [Int.reduceAdd]; rw [g 4 (by omega) (by omega) (k + 15) 42 d4]; simp only [Int.reduceAdd]; rw [g 5 (by omega) (by omega) (k + 14) 47 d5]; simp only [Int.reduceAdd]; rw [g 6 (by omega) (by omega) (k + 13) 37 d6]; simp only [Int.reduceAdd]; rw [g 7 (by omega) (by omega) (k + 12) 33 d7]; simp only [Int.reduceAdd]; rw [g 8 (by omega) (by omega) (k + 11) 63 d8]; simp only [Int.reduceAdd]; rw [g 9 (by omega) (by omega) (k + 10) 58 d9]; simp only [Int.reduceAdd]; rw [g 10 (by omega) (by omega) (k + 9) 46 d10]; simp only [Int.reduceAdd]; rw [g 11 (by omega) (by omega) (k + 8) 44 d11]; simp only [Int.reduceAdd]; rw [g 12 (by omega) (by omega) (k + 7) 61 d12]; simp only [Int.reduceAdd]; rw [g 13 (by omega) (by omega) (k + 6) 40 d13]; simp only [Int.reduceAdd]; rw [g 14 (by omega) (by omega) (k + 5) 41 d14]; simp only [Int.reduceAdd]; rw [g 15 (by omega) (by omega) (k + 4) 91 d15]; simp only [Int.reduceAdd]; rw [g 16 (by omega) (by omega) (k + 3) 93 d16]; simp only [Int.reduceAdd]; rw [g 17 (by omega) (by omega) (k + 2) 123 d17]; simp only [Int.reduceAdd]; rw [g 18 (by omega) (by omega) (k + 1) 125 d18]; simp only [Int.reduceAdd]; rw [z]
  have key:AU [c]=((c == 60) || ((c == 62) || ((c == 43) || ((c == 45) || ((c == 42) || ((c == 47) || ((c == 37) || ((c == 33) || ((c == 63) || ((c == 58) || ((c == 46) || ((c == 44) || ((c == 61) || ((c == 40) || ((c == 41) || ((c == 91) || ((c == 93) || ((c == 123) || (c == 125))))))))))))))))))):=by
   simp [AU,List.cons_beq_cons]
  rw [key]; simp only [Ua]
theorem ais (s:Str) (a:Int) (k:Nat) (b:Str) (hb:sl s a (bL (a + 2))=some b) (hl:b.length=2) (h0:bL (a + 2)≤s.length):
  eF s a (k + 7) 0=if AU b then some 2 else fq s a BIG 0:=by
 have g:∀ i:Int,0≤i→i < 12→∀ m:Nat,∀ d:Str,sl ([124,124,38,38,61,61,33,61,60,61,62,61]:Str) i (i + 2)=some d→eF s a (m + 1) i=if b == d then some 2 else eF s a m (i + 2):=by
  intro i h1 h2 m d hd; rw [eF]; simp only [h0,decide_true,if_true,hb,ak]; rw [aT (by omega) (by omega),hd]; have h3:decide (i < 12)=true:=by simpa using h2
  simp only [h3,if_true,ak]
 have z:∀ m:Nat,eF s a (m + 1) 12=fq s a BIG 0:=by intro m; rw [eF]; simp
 rw [g 0 (by omega) (by omega) (k + 6) [124,124] rfl,g _ (by omega) (by omega) (k + 5) [38,38] rfl,g _ (by omega) (by omega) (k + 4) [61,61] rfl,g _ (by omega) (by omega) (k + 3) [33,61] rfl,g _ (by omega) (by omega) (k + 2) [60,61] rfl,g _ (by omega) (by omega) (k + 1) [62,61] rfl]; rw [show (0:Int) + 2 + 2 + 2 + 2 + 2 + 2=12 from rfl,z]
 have key:AU b=((b == [124,124]) || ((b == [38,38]) || ((b == [61,61]) || ((b == [33,61]) || ((b == [60,61]) || (b == [62,61])))))):=by
  match b,hl with
  | [x,y],_=>simp [AU]
 rw [key]; simp only [Ua]
theorem aeC {s:Str} (hs:s.length≤2147483648) {i:Nat} (h:i < s.length):vv s (i:Int)=some ((opn (s.drop i):Nat):Int):=by
 unfold vv; obtain ⟨m,hm⟩:∃ m,BIG=m + 20:=⟨BIG - 20,rfl⟩; have hc:idx s (i:Int)=some (s.getD i 0):=by simp (disch:=omega) only [dflt,aT,aX,bD,aR,aY,if_pos,if_neg,ak,aC,aD,aF,aG,aJ,aI,aH,decide_eq_true_eq,beq_iff_eq,bne_iff_ne,ne_eq,Bool.and_eq_true,Bool.or_eq_true,Bool.not_eq_true',Bool.not_eq_true,decide_eq_false_iff_not,beq_eq_false_iff_ne,bne_eq_false_iff_eq,Int.toNat_add,Int.toNat_natCast,Int.reduceToNat,Int.zero_add,Int.add_zero,Nat.add_zero,Nat.zero_add,Bool.true_and,Bool.and_true,Bool.false_and,Bool.and_false,Bool.true_or,Bool.or_true,Bool.false_or,Bool.or_false,Bool.not_true,Bool.not_false,Bool.false_eq_true,Bool.true_eq_false,reduceCtorEq,not_true_eq_false,not_false_eq_true,if_true,if_false,decide_true,decide_false]
 by_cases h2:i + 1 < s.length
 ·
  have hb:sl s (i:Int) (bL ((i:Int) + 2))=some [s.getD i 0,s.getD (i + 1) 0]:=by
   simp (disch:=omega) only [aT,aX,bD,aR,aY,if_pos,if_neg,ak,aC,aD,aF,aG,aJ,aI,aH,decide_eq_true_eq,beq_iff_eq,bne_iff_ne,ne_eq,Bool.and_eq_true,Bool.or_eq_true,Bool.not_eq_true',Bool.not_eq_true,decide_eq_false_iff_not,beq_eq_false_iff_ne,bne_eq_false_iff_eq,Int.toNat_add,Int.toNat_natCast,Int.reduceToNat,Int.zero_add,Int.add_zero,Nat.add_zero,Nat.zero_add,Bool.true_and,Bool.and_true,Bool.false_and,Bool.and_false,Bool.true_or,Bool.or_true,Bool.false_or,Bool.or_false,Bool.not_true,Bool.not_false,Bool.false_eq_true,Bool.true_eq_false,reduceCtorEq,not_true_eq_false,not_false_eq_true,if_true,if_false,decide_true,decide_false]; rw [Lv h2]
  rw [hm,show m + 20=(m + 13) + 7 from rfl,ais s _ _ _ hb rfl (by rw [aT (by omega) (by omega)]; omega),hm,agA,hc]; rw [getD_drop h,getD_drop h2]; unfold opn; cases h3:AU [s.getD i 0,s.getD (i + 1) 0] with
  | true=>simp (disch:=omega) only [h3,aT,aX,bD,aR,aY,if_pos,if_neg,ak,aC,aD,aF,aG,aJ,aI,aH,decide_eq_true_eq,beq_iff_eq,bne_iff_ne,ne_eq,Bool.and_eq_true,Bool.or_eq_true,Bool.not_eq_true',Bool.not_eq_true,decide_eq_false_iff_not,beq_eq_false_iff_ne,bne_eq_false_iff_eq,Int.toNat_add,Int.toNat_natCast,Int.reduceToNat,Int.zero_add,Int.add_zero,Nat.add_zero,Nat.zero_add,Bool.true_and,Bool.and_true,Bool.false_and,Bool.and_false,Bool.true_or,Bool.or_true,Bool.false_or,Bool.or_false,Bool.not_true,Bool.not_false,Bool.false_eq_true,Bool.true_eq_false,reduceCtorEq,not_true_eq_false,not_false_eq_true,if_true,if_false,decide_true,decide_false]; rfl
  | false=>
   simp (disch:=omega) only [h3,aT,aX,bD,aR,aY,if_pos,if_neg,ak,aC,aD,aF,aG,aJ,aI,aH,decide_eq_true_eq,beq_iff_eq,bne_iff_ne,ne_eq,Bool.and_eq_true,Bool.or_eq_true,Bool.not_eq_true',Bool.not_eq_true,decide_eq_false_iff_not,beq_eq_false_iff_ne,bne_eq_false_iff_eq,Int.toNat_add,Int.toNat_natCast,Int.reduceToNat,Int.zero_add,Int.add_zero,Nat.add_zero,Nat.zero_add,Bool.true_and,Bool.and_true,Bool.false_and,Bool.and_false,Bool.true_or,Bool.or_true,Bool.false_or,Bool.or_false,Bool.not_true,Bool.not_false,Bool.false_eq_true,Bool.true_eq_false,reduceCtorEq,not_true_eq_false,not_false_eq_true,if_true,if_false,decide_true,decide_false]; cases h4:AU [s.getD i 0] with
   | true=>simp (disch:=omega) only [h3,h4,aT,aX,bD,aR,aY,if_pos,if_neg,ak,aC,aD,aF,aG,aJ,aI,aH,decide_eq_true_eq,beq_iff_eq,bne_iff_ne,ne_eq,Bool.and_eq_true,Bool.or_eq_true,Bool.not_eq_true',Bool.not_eq_true,decide_eq_false_iff_not,beq_eq_false_iff_ne,bne_eq_false_iff_eq,Int.toNat_add,Int.toNat_natCast,Int.reduceToNat,Int.zero_add,Int.add_zero,Nat.add_zero,Nat.zero_add,Bool.true_and,Bool.and_true,Bool.false_and,Bool.and_false,Bool.true_or,Bool.or_true,Bool.false_or,Bool.or_false,Bool.not_true,Bool.not_false,Bool.false_eq_true,Bool.true_eq_false,reduceCtorEq,not_true_eq_false,not_false_eq_true,if_true,if_false,decide_true,decide_false]; rfl
   | false=>simp (disch:=omega) only [h3,h4,aT,aX,bD,aR,aY,if_pos,if_neg,ak,aC,aD,aF,aG,aJ,aI,aH,decide_eq_true_eq,beq_iff_eq,bne_iff_ne,ne_eq,Bool.and_eq_true,Bool.or_eq_true,Bool.not_eq_true',Bool.not_eq_true,decide_eq_false_iff_not,beq_eq_false_iff_ne,bne_eq_false_iff_eq,Int.toNat_add,Int.toNat_natCast,Int.reduceToNat,Int.zero_add,Int.add_zero,Nat.add_zero,Nat.zero_add,Bool.true_and,Bool.and_true,Bool.false_and,Bool.and_false,Bool.true_or,Bool.or_true,Bool.false_or,Bool.or_false,Bool.not_true,Bool.not_false,Bool.false_eq_true,Bool.true_eq_false,reduceCtorEq,not_true_eq_false,not_false_eq_true,if_true,if_false,decide_true,decide_false]; rfl
 ·
  have g:∀ m:Nat,∀ j:Int,0≤j→j < 12→eF s (i:Int) (m + 1) j=eF s (i:Int) m (j + 2):=by
   intro m j h0 h1; rw [eF]; simp (disch:=omega) only [aT,aX,bD,aR,aY,if_pos,if_neg,ak,aC,aD,aF,aG,aJ,aI,aH,decide_eq_true_eq,beq_iff_eq,bne_iff_ne,ne_eq,Bool.and_eq_true,Bool.or_eq_true,Bool.not_eq_true',Bool.not_eq_true,decide_eq_false_iff_not,beq_eq_false_iff_ne,bne_eq_false_iff_eq,Int.toNat_add,Int.toNat_natCast,Int.reduceToNat,Int.zero_add,Int.add_zero,Nat.add_zero,Nat.zero_add,Bool.true_and,Bool.and_true,Bool.false_and,Bool.and_false,Bool.true_or,Bool.or_true,Bool.false_or,Bool.or_false,Bool.not_true,Bool.not_false,Bool.false_eq_true,Bool.true_eq_false,reduceCtorEq,not_true_eq_false,not_false_eq_true,if_true,if_false,decide_true,decide_false]
  have z:∀ m:Nat,eF s (i:Int) (m + 1) 12=fq s (i:Int) BIG 0:=by intro m; rw [eF]; simp
  rw [hm,show m + 20=(m + 13 + 1 + 6) from rfl,g _ _ (by omega) (by omega),g _ _ (by omega) (by omega),g _ _ (by omega) (by omega),g _ _ (by omega) (by omega),g _ _ (by omega) (by omega),g _ _ (by omega) (by omega)]; rw [show (0:Int) + 2 + 2 + 2 + 2 + 2 + 2=12 from rfl,z,hm,agA,hc]; rw [getD_drop h,List.drop_eq_nil_of_le (by omega:s.length≤i + 1)]; unfold opn; cases h4:AU [s.getD i 0] with
  | true=>simp (disch:=omega) only [h4,aT,aX,bD,aR,aY,if_pos,if_neg,ak,aC,aD,aF,aG,aJ,aI,aH,decide_eq_true_eq,beq_iff_eq,bne_iff_ne,ne_eq,Bool.and_eq_true,Bool.or_eq_true,Bool.not_eq_true',Bool.not_eq_true,decide_eq_false_iff_not,beq_eq_false_iff_ne,bne_eq_false_iff_eq,Int.toNat_add,Int.toNat_natCast,Int.reduceToNat,Int.zero_add,Int.add_zero,Nat.add_zero,Nat.zero_add,Bool.true_and,Bool.and_true,Bool.false_and,Bool.and_false,Bool.true_or,Bool.or_true,Bool.false_or,Bool.or_false,Bool.not_true,Bool.not_false,Bool.false_eq_true,Bool.true_eq_false,reduceCtorEq,not_true_eq_false,not_false_eq_true,if_true,if_false,decide_true,decide_false]; rfl
  | false=>simp (disch:=omega) only [h4,aT,aX,bD,aR,aY,if_pos,if_neg,ak,aC,aD,aF,aG,aJ,aI,aH,decide_eq_true_eq,beq_iff_eq,bne_iff_ne,ne_eq,Bool.and_eq_true,Bool.or_eq_true,Bool.not_eq_true',Bool.not_eq_true,decide_eq_false_iff_not,beq_eq_false_iff_ne,bne_eq_false_iff_eq,Int.toNat_add,Int.toNat_natCast,Int.reduceToNat,Int.zero_add,Int.add_zero,Nat.add_zero,Nat.zero_add,Bool.true_and,Bool.and_true,Bool.false_and,Bool.and_false,Bool.true_or,Bool.or_true,Bool.false_or,Bool.or_false,Bool.not_true,Bool.not_false,Bool.false_eq_true,Bool.true_eq_false,reduceCtorEq,not_true_eq_false,not_false_eq_true,if_true,if_false,decide_true,decide_false]; rfl
theorem Qa (l:Str):span isDigit l < span isWord l↔∃ c,l[span isDigit l]?=some c∧mM c=true:=by
 induction l with
 | nil=>simp
 | cons c l ih=>
  rw [kg,kg]; cases h:isDigit c with
  | false=>cases h2:mM c <;> simp [isWord,h,h2]
  | true=>simp [isWord,h,ih]
theorem Je (p:UInt8→Bool) (l:Str):∀ c∈l.take (span p l),p c=true:=by
 induction l with
 | nil=>simp
 | cons c l ih=>
  rw [kg]; split
  ·
   rename_i h; intro x hx; simp only [List.take_succ_cons,List.mem_cons] at hx; rcases hx with rfl | hx
   · exact h
   · exact ih x hx
  · simp
def mD :Str→Int × Str × Nat × Int
 | []=>(0,[],0,5)
 | c :: r=>
  if isDigit c then
   let n:=span isDigit (c :: r)
   if (1 < n∧c.toNat=48)∨n < span isWord (c :: r) then (0,[],0,5)
   else if BX < val ((c :: r).take n) then (0,[],0,2) else (2,(c :: r).take n,n,0)
  else if c.toNat=34 then
   let x:=txt 0 [] 1 r
   if x.2.2=0 then (3,x.1,x.2.1,0) else (0,[],0,x.2.2)
  else if mM c then
   let n:=span isWord (c :: r)
   if 64 < n then (0,[],0,3) else (1,(c :: r).take n,n,0)
  else
   let n:=opn (c :: r)
   if n=0 then (0,[],0,5) else (4,(c :: r).take n,n,0)
def ltk (a:Nat) (x:Int × Str × Nat × Int):aA × Int × Int:=if x.2.2.2=0 then (⟨x.1,x.2.1,a⟩,((a + x.2.2.1:Nat):Int),0) else (⟨0,[],0⟩,0,x.2.2.2)
def rtk (x:Int × Str × Nat × Int):aA × Int × Int:=if x.2.2.2=0 then (⟨x.1,x.2.1,0⟩,(x.2.2.1:Int),0) else (⟨0,[],0⟩,0,x.2.2.2)
end Go.Ft
namespace Go.Ft
open Go
attribute [local congr] gK
theorem o7 (s:Str) (i:Nat):(s.drop i).length=s.length - i:=List.length_drop
theorem uK (s:Str) (i n:Nat):(s.take (i + n)).drop i=(s.drop i).take n:=by
 rw [List.drop_take,Nat.add_sub_cancel_left]
theorem Pk {s:Str} {i n:Nat} (c:UInt8):(s.drop i)[n]?=some c↔s[i + n]?=some c:=by rw [List.getElem?_drop]
theorem Zr {s:Str} (hs:s.length≤2147483648) {i:Nat} (h:i < s.length):Ao s (i:Int)=
  some (ltk i (if 64 < span isWord (s.drop i) then (0,[],0,3) else (1,(s.drop i).take (span isWord (s.drop i)),span isWord (s.drop i),0))):=by
 have hle:=yU isWord (s.drop i); rw [o7] at hle; unfold Ao; rw [Li Zp (by omega) (by omega)]; generalize span isWord (s.drop i)=n at hle ⊢; simp (disch:=omega) only [aT,aX,bD,aR,aY,if_pos,if_neg,ak,aC,aD,aF,aG,aJ,aI,aH,decide_eq_true_eq,beq_iff_eq,bne_iff_ne,ne_eq,Bool.and_eq_true,Bool.or_eq_true,Bool.not_eq_true',Bool.not_eq_true,decide_eq_false_iff_not,beq_eq_false_iff_ne,bne_eq_false_iff_eq,Int.toNat_add,Int.toNat_natCast,Int.reduceToNat,Int.zero_add,Int.add_zero,Nat.add_zero,Nat.zero_add,Bool.true_and,Bool.and_true,Bool.false_and,Bool.and_false,Bool.true_or,Bool.or_true,Bool.false_or,Bool.or_false,Bool.not_true,Bool.not_false,Bool.false_eq_true,Bool.true_eq_false,reduceCtorEq,not_true_eq_false,not_false_eq_true,if_true,if_false,decide_true,decide_false]; by_cases h1:64 < n
 · simp (disch:=omega) only [aT,aX,bD,aR,aY,if_pos,if_neg,ak,aC,aD,aF,aG,aJ,aI,aH,decide_eq_true_eq,beq_iff_eq,bne_iff_ne,ne_eq,Bool.and_eq_true,Bool.or_eq_true,Bool.not_eq_true',Bool.not_eq_true,decide_eq_false_iff_not,beq_eq_false_iff_ne,bne_eq_false_iff_eq,Int.toNat_add,Int.toNat_natCast,Int.reduceToNat,Int.zero_add,Int.add_zero,Nat.add_zero,Nat.zero_add,Bool.true_and,Bool.and_true,Bool.false_and,Bool.and_false,Bool.true_or,Bool.or_true,Bool.false_or,Bool.or_false,Bool.not_true,Bool.not_false,Bool.false_eq_true,Bool.true_eq_false,reduceCtorEq,not_true_eq_false,not_false_eq_true,if_true,if_false,decide_true,decide_false]; rfl
 ·
  simp (disch:=omega) only [aT,aX,bD,aR,aY,if_pos,if_neg,ak,aC,aD,aF,aG,aJ,aI,aH,decide_eq_true_eq,beq_iff_eq,bne_iff_ne,ne_eq,Bool.and_eq_true,Bool.or_eq_true,Bool.not_eq_true',Bool.not_eq_true,decide_eq_false_iff_not,beq_eq_false_iff_ne,bne_eq_false_iff_eq,Int.toNat_add,Int.toNat_natCast,Int.reduceToNat,Int.zero_add,Int.add_zero,Nat.add_zero,Nat.zero_add,Bool.true_and,Bool.and_true,Bool.false_and,Bool.and_false,Bool.true_or,Bool.or_true,Bool.false_or,Bool.or_false,Bool.not_true,Bool.not_false,Bool.false_eq_true,Bool.true_eq_false,reduceCtorEq,not_true_eq_false,not_false_eq_true,if_true,if_false,decide_true,decide_false]; rw [uK]; rfl
theorem Uk {s:Str} (hs:s.length≤2147483648) {i:Nat} (h:i < s.length) (hd:isDigit (s.getD i 0)=true):vN s (i:Int)=some (ltk i (mD (s.drop i))):=by
 have hle:=yU isDigit (s.drop i); rw [o7] at hle; have hlt:=Qa (s.drop i); have htk:=Je isDigit (s.drop i); have hpos:0 < span isDigit (s.drop i):=by rw [getD_drop h,kg,hd]; simp
 have hh:(s.drop i)=s.getD i 0 :: s.drop (i + 1):=getD_drop h
 have ht:mD (s.drop i)=if (1 < span isDigit (s.drop i)∧(s.getD i 0).toNat=48)∨span isDigit (s.drop i) < span isWord (s.drop i) then (0,[],0,5)
   else if BX < val ((s.drop i).take (span isDigit (s.drop i))) then (0,[],0,2) else (2,(s.drop i).take (span isDigit (s.drop i)),span isDigit (s.drop i),0):=by
  rw [hh]; simp only [mD,hd,if_true]
 rw [ht]; unfold vN; rw [Li digit_eq (by omega) (by omega)]; generalize span isDigit (s.drop i)=n at hle hlt htk hpos ⊢; generalize span isWord (s.drop i)=m at hlt ⊢
 have e1:sl s (i:Int) ((i + n:Nat):Int)=some ((s.drop i).take n):=by
  simp (disch:=omega) only [aT,aX,bD,aR,aY,if_pos,if_neg,ak,aC,aD,aF,aG,aJ,aI,aH,decide_eq_true_eq,beq_iff_eq,bne_iff_ne,ne_eq,Bool.and_eq_true,Bool.or_eq_true,Bool.not_eq_true',Bool.not_eq_true,decide_eq_false_iff_not,beq_eq_false_iff_ne,bne_eq_false_iff_eq,Int.toNat_add,Int.toNat_natCast,Int.reduceToNat,Int.zero_add,Int.add_zero,Nat.add_zero,Nat.zero_add,Bool.true_and,Bool.and_true,Bool.false_and,Bool.and_false,Bool.true_or,Bool.or_true,Bool.false_or,Bool.or_false,Bool.not_true,Bool.not_false,Bool.false_eq_true,Bool.true_eq_false,reduceCtorEq,not_true_eq_false,not_false_eq_true,if_true,if_false,decide_true,decide_false]; rw [uK]
 have e2:((s.drop i).take n).length=n:=by simp; omega
 have e3:((s.drop i).take n).getD 0 0=s.getD i 0:=by
  obtain ⟨k,rfl⟩:∃ k,n=k + 1:=⟨n - 1,by omega⟩; rw [hh]; rfl
 rw [ak,e1,ak,e2]; by_cases hw:n < m
 ·
  obtain ⟨c,hc,hl⟩:=hlt.1 hw; rw [Pk] at hc; have hlt2:i + n < s.length:=(List.getElem?_eq_some_iff.1 hc).1; have e4:s.getD (i + n) 0=c:=by rw [List.getD_eq_getElem?_getD,hc]; rfl
  rw [if_pos (Or.inr hw)]; by_cases h1:1 < n
  ·
   by_cases h2:(s.getD i 0).toNat=48
   · simp (disch:=omega) only [e2,e3,dflt,aT,aX,bD,aR,aY,if_pos,if_neg,ak,aC,aD,aF,aG,aJ,aI,aH,decide_eq_true_eq,beq_iff_eq,bne_iff_ne,ne_eq,Bool.and_eq_true,Bool.or_eq_true,Bool.not_eq_true',Bool.not_eq_true,decide_eq_false_iff_not,beq_eq_false_iff_ne,bne_eq_false_iff_eq,Int.toNat_add,Int.toNat_natCast,Int.reduceToNat,Int.zero_add,Int.add_zero,Nat.add_zero,Nat.zero_add,Bool.true_and,Bool.and_true,Bool.false_and,Bool.and_false,Bool.true_or,Bool.or_true,Bool.false_or,Bool.or_false,Bool.not_true,Bool.not_false,Bool.false_eq_true,Bool.true_eq_false,reduceCtorEq,not_true_eq_false,not_false_eq_true,if_true,if_false,decide_true,decide_false]; rfl
   · simp (disch:=omega) only [e2,e3,dflt,letter_eq,e4,hl,aT,aX,bD,aR,aY,if_pos,if_neg,ak,aC,aD,aF,aG,aJ,aI,aH,decide_eq_true_eq,beq_iff_eq,bne_iff_ne,ne_eq,Bool.and_eq_true,Bool.or_eq_true,Bool.not_eq_true',Bool.not_eq_true,decide_eq_false_iff_not,beq_eq_false_iff_ne,bne_eq_false_iff_eq,Int.toNat_add,Int.toNat_natCast,Int.reduceToNat,Int.zero_add,Int.add_zero,Nat.add_zero,Nat.zero_add,Bool.true_and,Bool.and_true,Bool.false_and,Bool.and_false,Bool.true_or,Bool.or_true,Bool.false_or,Bool.or_false,Bool.not_true,Bool.not_false,Bool.false_eq_true,Bool.true_eq_false,reduceCtorEq,not_true_eq_false,not_false_eq_true,if_true,if_false,decide_true,decide_false]; rfl
  · simp (disch:=omega) only [e2,e3,dflt,letter_eq,e4,hl,aT,aX,bD,aR,aY,if_pos,if_neg,ak,aC,aD,aF,aG,aJ,aI,aH,decide_eq_true_eq,beq_iff_eq,bne_iff_ne,ne_eq,Bool.and_eq_true,Bool.or_eq_true,Bool.not_eq_true',Bool.not_eq_true,decide_eq_false_iff_not,beq_eq_false_iff_ne,bne_eq_false_iff_eq,Int.toNat_add,Int.toNat_natCast,Int.reduceToNat,Int.zero_add,Int.add_zero,Nat.add_zero,Nat.zero_add,Bool.true_and,Bool.and_true,Bool.false_and,Bool.and_false,Bool.true_or,Bool.or_true,Bool.false_or,Bool.or_false,Bool.not_true,Bool.not_false,Bool.false_eq_true,Bool.true_eq_false,reduceCtorEq,not_true_eq_false,not_false_eq_true,if_true,if_false,decide_true,decide_false]; rfl
 ·
  by_cases hz:1 < n∧(s.getD i 0).toNat=48
  ·
   rw [if_pos (Or.inl hz)]; simp (disch:=omega) only [e2,e3,dflt,aT,aX,bD,aR,aY,if_pos,if_neg,ak,aC,aD,aF,aG,aJ,aI,aH,decide_eq_true_eq,beq_iff_eq,bne_iff_ne,ne_eq,Bool.and_eq_true,Bool.or_eq_true,Bool.not_eq_true',Bool.not_eq_true,decide_eq_false_iff_not,beq_eq_false_iff_ne,bne_eq_false_iff_eq,Int.toNat_add,Int.toNat_natCast,Int.reduceToNat,Int.zero_add,Int.add_zero,Nat.add_zero,Nat.zero_add,Bool.true_and,Bool.and_true,Bool.false_and,Bool.and_false,Bool.true_or,Bool.or_true,Bool.false_or,Bool.or_false,Bool.not_true,Bool.not_false,Bool.false_eq_true,Bool.true_eq_false,reduceCtorEq,not_true_eq_false,not_false_eq_true,if_true,if_false,decide_true,decide_false]; rfl
  ·
   rw [if_neg (show ¬ ((1 < n∧(s.getD i 0).toNat=48)∨n < m) from by omega)]
   have hb2:(if decide (((i + n:Nat):Int) < (s.length:Int)) then ay (idx s ((i + n:Nat):Int)) fun x2=>pU x2 else some false)=some false:=by
    by_cases h4:i + n < s.length
    ·
     simp (disch:=omega) only [letter_eq,dflt,aT,aX,bD,aR,aY,if_pos,if_neg,ak,aC,aD,aF,aG,aJ,aI,aH,decide_eq_true_eq,beq_iff_eq,bne_iff_ne,ne_eq,Bool.and_eq_true,Bool.or_eq_true,Bool.not_eq_true',Bool.not_eq_true,decide_eq_false_iff_not,beq_eq_false_iff_ne,bne_eq_false_iff_eq,Int.toNat_add,Int.toNat_natCast,Int.reduceToNat,Int.zero_add,Int.add_zero,Nat.add_zero,Nat.zero_add,Bool.true_and,Bool.and_true,Bool.false_and,Bool.and_false,Bool.true_or,Bool.or_true,Bool.false_or,Bool.or_false,Bool.not_true,Bool.not_false,Bool.false_eq_true,Bool.true_eq_false,reduceCtorEq,not_true_eq_false,not_false_eq_true,if_true,if_false,decide_true,decide_false]; cases hl:mM (s.getD (i + n) 0) with
     | false=>rfl
     | true=>
      exact absurd (hlt.2 ⟨_,by rw [Pk,List.getElem?_eq_getElem h4],by rw [List.getD_eq_getElem?_getD,List.getElem?_eq_getElem h4] at hl; exact hl⟩) hw
    · simp (disch:=omega) only [aT,aX,bD,aR,aY,if_pos,if_neg,ak,aC,aD,aF,aG,aJ,aI,aH,decide_eq_true_eq,beq_iff_eq,bne_iff_ne,ne_eq,Bool.and_eq_true,Bool.or_eq_true,Bool.not_eq_true',Bool.not_eq_true,decide_eq_false_iff_not,beq_eq_false_iff_ne,bne_eq_false_iff_eq,Int.toNat_add,Int.toNat_natCast,Int.reduceToNat,Int.zero_add,Int.add_zero,Nat.add_zero,Nat.zero_add,Bool.true_and,Bool.and_true,Bool.false_and,Bool.and_false,Bool.true_or,Bool.or_true,Bool.false_or,Bool.or_false,Bool.not_true,Bool.not_false,Bool.false_eq_true,Bool.true_eq_false,reduceCtorEq,not_true_eq_false,not_false_eq_true,if_true,if_false,decide_true,decide_false]
   have hb1:(if decide (1 < (n:Int)) then ay (idx ((s.drop i).take n) 0) fun x1=>some ((x1.toNat:Int) == 48) else some false)=some false:=by
    by_cases h1:1 < n
    ·
     simp (disch:=omega) only [e2,e3,dflt,aT,aX,bD,aR,aY,if_pos,if_neg,ak,aC,aD,aF,aG,aJ,aI,aH,decide_eq_true_eq,beq_iff_eq,bne_iff_ne,ne_eq,Bool.and_eq_true,Bool.or_eq_true,Bool.not_eq_true',Bool.not_eq_true,decide_eq_false_iff_not,beq_eq_false_iff_ne,bne_eq_false_iff_eq,Int.toNat_add,Int.toNat_natCast,Int.reduceToNat,Int.zero_add,Int.add_zero,Nat.add_zero,Nat.zero_add,Bool.true_and,Bool.and_true,Bool.false_and,Bool.and_false,Bool.true_or,Bool.or_true,Bool.false_or,Bool.or_false,Bool.not_true,Bool.not_false,Bool.false_eq_true,Bool.true_eq_false,reduceCtorEq,not_true_eq_false,not_false_eq_true,if_true,if_false,decide_true,decide_false]; simp only [Option.some.injEq,beq_eq_false_iff_ne]; omega
    · simp (disch:=omega) only [aT,aX,bD,aR,aY,if_pos,if_neg,ak,aC,aD,aF,aG,aJ,aI,aH,decide_eq_true_eq,beq_iff_eq,bne_iff_ne,ne_eq,Bool.and_eq_true,Bool.or_eq_true,Bool.not_eq_true',Bool.not_eq_true,decide_eq_false_iff_not,beq_eq_false_iff_ne,bne_eq_false_iff_eq,Int.toNat_add,Int.toNat_natCast,Int.reduceToNat,Int.zero_add,Int.add_zero,Nat.add_zero,Nat.zero_add,Bool.true_and,Bool.and_true,Bool.false_and,Bool.and_false,Bool.true_or,Bool.or_true,Bool.false_or,Bool.or_false,Bool.not_true,Bool.not_false,Bool.false_eq_true,Bool.true_eq_false,reduceCtorEq,not_true_eq_false,not_false_eq_true,if_true,if_false,decide_true,decide_false]
   rw [hb1,ak,if_neg (by simp),hb2]; simp (disch:=omega) only [Zv (s:=(s.drop i).take n) (by rw [e2]; omega) htk,aT,aX,bD,aR,aY,if_pos,if_neg,ak,aC,aD,aF,aG,aJ,aI,aH,decide_eq_true_eq,beq_iff_eq,bne_iff_ne,ne_eq,Bool.and_eq_true,Bool.or_eq_true,Bool.not_eq_true',Bool.not_eq_true,decide_eq_false_iff_not,beq_eq_false_iff_ne,bne_eq_false_iff_eq,Int.toNat_add,Int.toNat_natCast,Int.reduceToNat,Int.zero_add,Int.add_zero,Nat.add_zero,Nat.zero_add,Bool.true_and,Bool.and_true,Bool.false_and,Bool.and_false,Bool.true_or,Bool.or_true,Bool.false_or,Bool.or_false,Bool.not_true,Bool.not_false,Bool.false_eq_true,Bool.true_eq_false,reduceCtorEq,not_true_eq_false,not_false_eq_true,if_true,if_false,decide_true,decide_false]; by_cases h6:BX < val ((s.drop i).take n)
   · simp (disch:=omega) only [h6,aT,aX,bD,aR,aY,if_pos,if_neg,ak,aC,aD,aF,aG,aJ,aI,aH,decide_eq_true_eq,beq_iff_eq,bne_iff_ne,ne_eq,Bool.and_eq_true,Bool.or_eq_true,Bool.not_eq_true',Bool.not_eq_true,decide_eq_false_iff_not,beq_eq_false_iff_ne,bne_eq_false_iff_eq,Int.toNat_add,Int.toNat_natCast,Int.reduceToNat,Int.zero_add,Int.add_zero,Nat.add_zero,Nat.zero_add,Bool.true_and,Bool.and_true,Bool.false_and,Bool.and_false,Bool.true_or,Bool.or_true,Bool.false_or,Bool.or_false,Bool.not_true,Bool.not_false,Bool.false_eq_true,Bool.true_eq_false,reduceCtorEq,not_true_eq_false,not_false_eq_true,if_true,if_false,decide_true,decide_false]; rfl
   · simp (disch:=omega) only [h6,aT,aX,bD,aR,aY,if_pos,if_neg,ak,aC,aD,aF,aG,aJ,aI,aH,decide_eq_true_eq,beq_iff_eq,bne_iff_ne,ne_eq,Bool.and_eq_true,Bool.or_eq_true,Bool.not_eq_true',Bool.not_eq_true,decide_eq_false_iff_not,beq_eq_false_iff_ne,bne_eq_false_iff_eq,Int.toNat_add,Int.toNat_natCast,Int.reduceToNat,Int.zero_add,Int.add_zero,Nat.add_zero,Nat.zero_add,Bool.true_and,Bool.and_true,Bool.false_and,Bool.and_false,Bool.true_or,Bool.or_true,Bool.false_or,Bool.or_false,Bool.not_true,Bool.not_false,Bool.false_eq_true,Bool.true_eq_false,reduceCtorEq,not_true_eq_false,not_false_eq_true,if_true,if_false,decide_true,decide_false]; rfl
theorem Pb {s:Str} (hs:s.length≤2147483648) {i:Nat} (h:i < s.length):xQ s (i:Int)=some (ltk i (mD (s.drop i))):=by
 have hh:(s.drop i)=s.getD i 0 :: s.drop (i + 1):=getD_drop h; unfold xQ; simp (disch:=omega) only [dflt,letter_eq,digit_eq,aT,aX,bD,aR,aY,if_pos,if_neg,ak,aC,aD,aF,aG,aJ,aI,aH,decide_eq_true_eq,beq_iff_eq,bne_iff_ne,ne_eq,Bool.and_eq_true,Bool.or_eq_true,Bool.not_eq_true',Bool.not_eq_true,decide_eq_false_iff_not,beq_eq_false_iff_ne,bne_eq_false_iff_eq,Int.toNat_add,Int.toNat_natCast,Int.reduceToNat,Int.zero_add,Int.add_zero,Nat.add_zero,Nat.zero_add,Bool.true_and,Bool.and_true,Bool.false_and,Bool.and_false,Bool.true_or,Bool.or_true,Bool.false_or,Bool.or_false,Bool.not_true,Bool.not_false,Bool.false_eq_true,Bool.true_eq_false,reduceCtorEq,not_true_eq_false,not_false_eq_true,if_true,if_false,decide_true,decide_false]; cases hl:mM (s.getD i 0) with
 | true=>
  have hd:isDigit (s.getD i 0)=false:=by
   rw [ze] at hl; cases hd:isDigit (s.getD i 0) with
   | false=>rfl
   | true=>rw [nP] at hd; omega
  have Kw:¬ (s.getD i 0).toNat=34:=by rw [ze] at hl; omega
  rw [if_pos rfl,Zr hs h,hh]; simp only [mD,hd,hl,Kw,if_false,if_true,Bool.false_eq_true]
 | false=>
  rw [if_neg (by simp)]; cases hd:isDigit (s.getD i 0) with
  | true=>rw [if_pos rfl,Uk hs h hd]
  | false=>
   rw [if_neg (by simp)]; by_cases Kw:(s.getD i 0).toNat=34
   ·
    simp (disch:=omega) only [Zq hs h,aT,aX,bD,aR,aY,if_pos,if_neg,ak,aC,aD,aF,aG,aJ,aI,aH,decide_eq_true_eq,beq_iff_eq,bne_iff_ne,ne_eq,Bool.and_eq_true,Bool.or_eq_true,Bool.not_eq_true',Bool.not_eq_true,decide_eq_false_iff_not,beq_eq_false_iff_ne,bne_eq_false_iff_eq,Int.toNat_add,Int.toNat_natCast,Int.reduceToNat,Int.zero_add,Int.add_zero,Nat.add_zero,Nat.zero_add,Bool.true_and,Bool.and_true,Bool.false_and,Bool.and_false,Bool.true_or,Bool.or_true,Bool.false_or,Bool.or_false,Bool.not_true,Bool.not_false,Bool.false_eq_true,Bool.true_eq_false,reduceCtorEq,not_true_eq_false,not_false_eq_true,if_true,if_false,decide_true,decide_false]; rw [hh]; simp only [mD,hd,Kw,if_false,if_true,Bool.false_eq_true,Uh,ltk]; split <;> simp_all
   ·
    simp (disch:=omega) only [ae5 hs h,aT,aX,bD,aR,aY,if_pos,if_neg,ak,aC,aD,aF,aG,aJ,aI,aH,decide_eq_true_eq,beq_iff_eq,bne_iff_ne,ne_eq,Bool.and_eq_true,Bool.or_eq_true,Bool.not_eq_true',Bool.not_eq_true,decide_eq_false_iff_not,beq_eq_false_iff_ne,bne_eq_false_iff_eq,Int.toNat_add,Int.toNat_natCast,Int.reduceToNat,Int.zero_add,Int.add_zero,Nat.add_zero,Nat.zero_add,Bool.true_and,Bool.and_true,Bool.false_and,Bool.and_false,Bool.true_or,Bool.or_true,Bool.false_or,Bool.or_false,Bool.not_true,Bool.not_false,Bool.false_eq_true,Bool.true_eq_false,reduceCtorEq,not_true_eq_false,not_false_eq_true,if_true,if_false,decide_true,decide_false]; rw [hh]; simp only [mD,hd,hl,Kw,if_false,if_true,Bool.false_eq_true,ltk]; generalize opn (s.getD i 0 :: s.drop (i + 1))=n; by_cases ho:n=0
    · simp (disch:=omega) only [ho,aT,aX,bD,aR,aY,if_pos,if_neg,ak,aC,aD,aF,aG,aJ,aI,aH,decide_eq_true_eq,beq_iff_eq,bne_iff_ne,ne_eq,Bool.and_eq_true,Bool.or_eq_true,Bool.not_eq_true',Bool.not_eq_true,decide_eq_false_iff_not,beq_eq_false_iff_ne,bne_eq_false_iff_eq,Int.toNat_add,Int.toNat_natCast,Int.reduceToNat,Int.zero_add,Int.add_zero,Nat.add_zero,Nat.zero_add,Bool.true_and,Bool.and_true,Bool.false_and,Bool.and_false,Bool.true_or,Bool.or_true,Bool.false_or,Bool.or_false,Bool.not_true,Bool.not_false,Bool.false_eq_true,Bool.true_eq_false,reduceCtorEq,not_true_eq_false,not_false_eq_true,if_true,if_false,decide_true,decide_false]
    · simp (disch:=omega) only [ho,aT,aX,bD,aR,aY,if_pos,if_neg,ak,aC,aD,aF,aG,aJ,aI,aH,decide_eq_true_eq,beq_iff_eq,bne_iff_ne,ne_eq,Bool.and_eq_true,Bool.or_eq_true,Bool.not_eq_true',Bool.not_eq_true,decide_eq_false_iff_not,beq_eq_false_iff_ne,bne_eq_false_iff_eq,Int.toNat_add,Int.toNat_natCast,Int.reduceToNat,Int.zero_add,Int.add_zero,Nat.add_zero,Nat.zero_add,Bool.true_and,Bool.and_true,Bool.false_and,Bool.and_false,Bool.true_or,Bool.or_true,Bool.false_or,Bool.or_false,Bool.not_true,Bool.not_false,Bool.false_eq_true,Bool.true_eq_false,reduceCtorEq,not_true_eq_false,not_false_eq_true,if_true,if_false,decide_true,decide_false]
theorem TV {s:Str} (hs:s.length≤2147483648) {i:Nat} (h:i < s.length) (hd:isDigit (s.getD i 0)=true):Ae s (i:Int)=some (rtk (mD (s.drop i))):=by
 have hle:=yU isDigit (s.drop i); rw [o7] at hle; have htk:=Je isDigit (s.drop i); have hpos:0 < span isDigit (s.drop i):=by rw [getD_drop h,kg,hd]; simp
 have hh:(s.drop i)=s.getD i 0 :: s.drop (i + 1):=getD_drop h
 have ht:mD (s.drop i)=if (1 < span isDigit (s.drop i)∧(s.getD i 0).toNat=48)∨span isDigit (s.drop i) < span isWord (s.drop i) then (0,[],0,5)
   else if BX < val ((s.drop i).take (span isDigit (s.drop i))) then (0,[],0,2) else (2,(s.drop i).take (span isDigit (s.drop i)),span isDigit (s.drop i),0):=by
  rw [hh]; simp only [mD,hd,if_true]
 rw [ht]
 have hsl:∀ n,i + n≤s.length→sl s (i:Int) (bL ((i:Int) + (n:Int)))=some ((s.drop i).take n):=by
  intro n hn; simp (disch:=omega) only [aT,aX,bD,aR,aY,if_pos,if_neg,ak,aC,aD,aF,aG,aJ,aI,aH,decide_eq_true_eq,beq_iff_eq,bne_iff_ne,ne_eq,Bool.and_eq_true,Bool.or_eq_true,Bool.not_eq_true',Bool.not_eq_true,decide_eq_false_iff_not,beq_eq_false_iff_ne,bne_eq_false_iff_eq,Int.toNat_add,Int.toNat_natCast,Int.reduceToNat,Int.zero_add,Int.add_zero,Nat.add_zero,Nat.zero_add,Bool.true_and,Bool.and_true,Bool.false_and,Bool.and_false,Bool.true_or,Bool.or_true,Bool.false_or,Bool.or_false,Bool.not_true,Bool.not_false,Bool.false_eq_true,Bool.true_eq_false,reduceCtorEq,not_true_eq_false,not_false_eq_true,if_true,if_false,decide_true,decide_false]; rw [uK]
 unfold Ae; rw [XC (by omega) (by omega),Vb (by omega) (by omega)]; have hsn:=hsl (span isDigit (s.drop i)) (by omega); generalize span isDigit (s.drop i)=n at hle htk hpos hsn ⊢; generalize span isWord (s.drop i)=m at ⊢; have e2:((s.drop i).take n).length=n:=by simp; omega
 have e3:((s.drop i).take n).getD 0 0=s.getD i 0:=by
  obtain ⟨k,rfl⟩:∃ k,n=k + 1:=⟨n - 1,by omega⟩; rw [hh]; rfl
 have hne:(s.drop i).take n≠[]:=fun h0=>by rw [h0] at e2; simp at e2; omega
 rw [ak,ak]; by_cases hw:n < m
 ·
  rw [if_pos (show (1 < n∧(s.getD i 0).toNat=48)∨n < m from .inr hw)]; simp (disch:=omega) only [aT,aX,bD,aR,aY,if_pos,if_neg,ak,aC,aD,aF,aG,aJ,aI,aH,decide_eq_true_eq,beq_iff_eq,bne_iff_ne,ne_eq,Bool.and_eq_true,Bool.or_eq_true,Bool.not_eq_true',Bool.not_eq_true,decide_eq_false_iff_not,beq_eq_false_iff_ne,bne_eq_false_iff_eq,Int.toNat_add,Int.toNat_natCast,Int.reduceToNat,Int.zero_add,Int.add_zero,Nat.add_zero,Nat.zero_add,Bool.true_and,Bool.and_true,Bool.false_and,Bool.and_false,Bool.true_or,Bool.or_true,Bool.false_or,Bool.or_false,Bool.not_true,Bool.not_false,Bool.false_eq_true,Bool.true_eq_false,reduceCtorEq,not_true_eq_false,not_false_eq_true,if_true,if_false,decide_true,decide_false]; rfl
 ·
  by_cases hz:1 < n∧(s.getD i 0).toNat=48
  ·
   rw [if_pos (show (1 < n∧(s.getD i 0).toNat=48)∨n < m from .inl hz)]; simp (disch:=omega) only [dflt,aT,aX,bD,aR,aY,if_pos,if_neg,ak,aC,aD,aF,aG,aJ,aI,aH,decide_eq_true_eq,beq_iff_eq,bne_iff_ne,ne_eq,Bool.and_eq_true,Bool.or_eq_true,Bool.not_eq_true',Bool.not_eq_true,decide_eq_false_iff_not,beq_eq_false_iff_ne,bne_eq_false_iff_eq,Int.toNat_add,Int.toNat_natCast,Int.reduceToNat,Int.zero_add,Int.add_zero,Nat.add_zero,Nat.zero_add,Bool.true_and,Bool.and_true,Bool.false_and,Bool.and_false,Bool.true_or,Bool.or_true,Bool.false_or,Bool.or_false,Bool.not_true,Bool.not_false,Bool.false_eq_true,Bool.true_eq_false,reduceCtorEq,not_true_eq_false,not_false_eq_true,if_true,if_false,decide_true,decide_false]; rfl
  ·
   rw [if_neg (show ¬ ((1 < n∧(s.getD i 0).toNat=48)∨n < m) from by omega)]
   have hb:(if decide ((n:Int) < (m:Int)) then some true else if decide (1 < (n:Int)) then ay (idx s (i:Int)) fun x2=>some ((x2.toNat:Int) == 48) else some false)=some false:=by
    by_cases h1:1 < n
    ·
     simp (disch:=omega) only [dflt,aT,aX,bD,aR,aY,if_pos,if_neg,ak,aC,aD,aF,aG,aJ,aI,aH,decide_eq_true_eq,beq_iff_eq,bne_iff_ne,ne_eq,Bool.and_eq_true,Bool.or_eq_true,Bool.not_eq_true',Bool.not_eq_true,decide_eq_false_iff_not,beq_eq_false_iff_ne,bne_eq_false_iff_eq,Int.toNat_add,Int.toNat_natCast,Int.reduceToNat,Int.zero_add,Int.add_zero,Nat.add_zero,Nat.zero_add,Bool.true_and,Bool.and_true,Bool.false_and,Bool.and_false,Bool.true_or,Bool.or_true,Bool.false_or,Bool.or_false,Bool.not_true,Bool.not_false,Bool.false_eq_true,Bool.true_eq_false,reduceCtorEq,not_true_eq_false,not_false_eq_true,if_true,if_false,decide_true,decide_false]; simp only [Option.some.injEq,beq_eq_false_iff_ne]; omega
    · simp (disch:=omega) only [aT,aX,bD,aR,aY,if_pos,if_neg,ak,aC,aD,aF,aG,aJ,aI,aH,decide_eq_true_eq,beq_iff_eq,bne_iff_ne,ne_eq,Bool.and_eq_true,Bool.or_eq_true,Bool.not_eq_true',Bool.not_eq_true,decide_eq_false_iff_not,beq_eq_false_iff_ne,bne_eq_false_iff_eq,Int.toNat_add,Int.toNat_natCast,Int.reduceToNat,Int.zero_add,Int.add_zero,Nat.add_zero,Nat.zero_add,Bool.true_and,Bool.and_true,Bool.false_and,Bool.and_false,Bool.true_or,Bool.or_true,Bool.false_or,Bool.or_false,Bool.not_true,Bool.not_false,Bool.false_eq_true,Bool.true_eq_false,reduceCtorEq,not_true_eq_false,not_false_eq_true,if_true,if_false,decide_true,decide_false]
   rw [hb,ak,hsn]; rw [if_neg (by simp),ak,abV htk hne,e2,e3]; by_cases h16:16 < n
   ·
    have hv:BX < val ((s.drop i).take n):=by
     obtain ⟨k,rfl⟩:∃ k,n=k + 1:=⟨n - 1,by omega⟩; rw [hh,List.take_succ_cons]; refine YE hd (by omega) ?_; simp [List.length_take]; omega
    rw [if_pos (show 16 < n∨(1 < n∧(s.getD i 0).toNat=48) from .inl h16),if_pos hv]; simp (disch:=omega) only [aT,aX,bD,aR,aY,if_pos,if_neg,ak,aC,aD,aF,aG,aJ,aI,aH,decide_eq_true_eq,beq_iff_eq,bne_iff_ne,ne_eq,Bool.and_eq_true,Bool.or_eq_true,Bool.not_eq_true',Bool.not_eq_true,decide_eq_false_iff_not,beq_eq_false_iff_ne,bne_eq_false_iff_eq,Int.toNat_add,Int.toNat_natCast,Int.reduceToNat,Int.zero_add,Int.add_zero,Nat.add_zero,Nat.zero_add,Bool.true_and,Bool.and_true,Bool.false_and,Bool.and_false,Bool.true_or,Bool.or_true,Bool.false_or,Bool.or_false,Bool.not_true,Bool.not_false,Bool.false_eq_true,Bool.true_eq_false,reduceCtorEq,not_true_eq_false,not_false_eq_true,if_true,if_false,decide_true,decide_false]; rfl
   ·
    rw [if_neg (show ¬ (16 < n∨(1 < n∧(s.getD i 0).toNat=48)) from by omega)]; by_cases h6:BX < val ((s.drop i).take n)
    ·
     simp (disch:=omega) only [h6,aT,aX,bD,aR,aY,if_pos,if_neg,ak,aC,aD,aF,aG,aJ,aI,aH,decide_eq_true_eq,beq_iff_eq,bne_iff_ne,ne_eq,Bool.and_eq_true,Bool.or_eq_true,Bool.not_eq_true',Bool.not_eq_true,decide_eq_false_iff_not,beq_eq_false_iff_ne,bne_eq_false_iff_eq,Int.toNat_add,Int.toNat_natCast,Int.reduceToNat,Int.zero_add,Int.add_zero,Nat.add_zero,Nat.zero_add,Bool.true_and,Bool.and_true,Bool.false_and,Bool.and_false,Bool.true_or,Bool.or_true,Bool.false_or,Bool.or_false,Bool.not_true,Bool.not_false,Bool.false_eq_true,Bool.true_eq_false,reduceCtorEq,not_true_eq_false,not_false_eq_true,if_true,if_false,decide_true,decide_false]; rfl
    ·
     have h7:val ((s.drop i).take n)≤BX:=by omega
     simp (disch:=omega) only [h6,h7,aT,aX,bD,aR,aY,if_pos,if_neg,ak,aC,aD,aF,aG,aJ,aI,aH,decide_eq_true_eq,beq_iff_eq,bne_iff_ne,ne_eq,Bool.and_eq_true,Bool.or_eq_true,Bool.not_eq_true',Bool.not_eq_true,decide_eq_false_iff_not,beq_eq_false_iff_ne,bne_eq_false_iff_eq,Int.toNat_add,Int.toNat_natCast,Int.reduceToNat,Int.zero_add,Int.add_zero,Nat.add_zero,Nat.zero_add,Bool.true_and,Bool.and_true,Bool.false_and,Bool.and_false,Bool.true_or,Bool.or_true,Bool.false_or,Bool.or_false,Bool.not_true,Bool.not_false,Bool.false_eq_true,Bool.true_eq_false,reduceCtorEq,not_true_eq_false,not_false_eq_true,if_true,if_false,decide_true,decide_false]; rfl
theorem Jd {c:UInt8} {l:Str}:span isWord (c :: l)=0↔isWord c=false:=by
 rw [kg]; cases isWord c <;> simp
theorem WK {s:Str} (hs:s.length≤2147483648) {i:Nat} (h:i < s.length):Cq s (i:Int)=some (rtk (mD (s.drop i))):=by
 have hh:(s.drop i)=s.getD i 0 :: s.drop (i + 1):=getD_drop h; unfold Cq; simp (disch:=omega) only [dflt,LM,Ce,aT,aX,bD,aR,aY,if_pos,if_neg,ak,aC,aD,aF,aG,aJ,aI,aH,decide_eq_true_eq,beq_iff_eq,bne_iff_ne,ne_eq,Bool.and_eq_true,Bool.or_eq_true,Bool.not_eq_true',Bool.not_eq_true,decide_eq_false_iff_not,beq_eq_false_iff_ne,bne_eq_false_iff_eq,Int.toNat_add,Int.toNat_natCast,Int.reduceToNat,Int.zero_add,Int.add_zero,Nat.add_zero,Nat.zero_add,Bool.true_and,Bool.and_true,Bool.false_and,Bool.and_false,Bool.true_or,Bool.or_true,Bool.false_or,Bool.or_false,Bool.not_true,Bool.not_false,Bool.false_eq_true,Bool.true_eq_false,reduceCtorEq,not_true_eq_false,not_false_eq_true,if_true,if_false,decide_true,decide_false]; cases hd:isDigit (s.getD i 0) with
 | true=>rw [if_pos rfl,TV hs h hd]
 | false=>
  rw [if_neg (by simp)]; by_cases Kw:(s.getD i 0).toNat=34
  ·
   simp (disch:=omega) only [YX hs h,aT,aX,bD,aR,aY,if_pos,if_neg,ak,aC,aD,aF,aG,aJ,aI,aH,decide_eq_true_eq,beq_iff_eq,bne_iff_ne,ne_eq,Bool.and_eq_true,Bool.or_eq_true,Bool.not_eq_true',Bool.not_eq_true,decide_eq_false_iff_not,beq_eq_false_iff_ne,bne_eq_false_iff_eq,Int.toNat_add,Int.toNat_natCast,Int.reduceToNat,Int.zero_add,Int.add_zero,Nat.add_zero,Nat.zero_add,Bool.true_and,Bool.and_true,Bool.false_and,Bool.and_false,Bool.true_or,Bool.or_true,Bool.false_or,Bool.or_false,Bool.not_true,Bool.not_false,Bool.false_eq_true,Bool.true_eq_false,reduceCtorEq,not_true_eq_false,not_false_eq_true,if_true,if_false,decide_true,decide_false]; rw [hh]; simp only [mD,hd,Kw,if_false,if_true,Bool.false_eq_true,WL,rtk]; split <;> simp_all
  ·
   have hwl:=yU isWord (s.drop i); rw [o7] at hwl; simp (disch:=omega) only [Vb (s:=s) (by omega) (Nat.le_of_lt h),aT,aX,bD,aR,aY,if_pos,if_neg,ak,aC,aD,aF,aG,aJ,aI,aH,decide_eq_true_eq,beq_iff_eq,bne_iff_ne,ne_eq,Bool.and_eq_true,Bool.or_eq_true,Bool.not_eq_true',Bool.not_eq_true,decide_eq_false_iff_not,beq_eq_false_iff_ne,bne_eq_false_iff_eq,Int.toNat_add,Int.toNat_natCast,Int.reduceToNat,Int.zero_add,Int.add_zero,Nat.add_zero,Nat.zero_add,Bool.true_and,Bool.and_true,Bool.false_and,Bool.and_false,Bool.true_or,Bool.or_true,Bool.false_or,Bool.or_false,Bool.not_true,Bool.not_false,Bool.false_eq_true,Bool.true_eq_false,reduceCtorEq,not_true_eq_false,not_false_eq_true,if_true,if_false,decide_true,decide_false]
   have hsl:∀ n,i + n≤s.length→sl s (i:Int) (bL ((i:Int) + (n:Int)))=some ((s.drop i).take n):=by
    intro n hn; simp (disch:=omega) only [aT,aX,bD,aR,aY,if_pos,if_neg,ak,aC,aD,aF,aG,aJ,aI,aH,decide_eq_true_eq,beq_iff_eq,bne_iff_ne,ne_eq,Bool.and_eq_true,Bool.or_eq_true,Bool.not_eq_true',Bool.not_eq_true,decide_eq_false_iff_not,beq_eq_false_iff_ne,bne_eq_false_iff_eq,Int.toNat_add,Int.toNat_natCast,Int.reduceToNat,Int.zero_add,Int.add_zero,Nat.add_zero,Nat.zero_add,Bool.true_and,Bool.and_true,Bool.false_and,Bool.and_false,Bool.true_or,Bool.or_true,Bool.false_or,Bool.or_false,Bool.not_true,Bool.not_false,Bool.false_eq_true,Bool.true_eq_false,reduceCtorEq,not_true_eq_false,not_false_eq_true,if_true,if_false,decide_true,decide_false]; rw [uK]
   cases hl:mM (s.getD i 0) with
   | true=>
    have hpos:0 < span isWord (s.drop i):=by rw [hh,kg,isWord,hl]; simp
    have hsn:=hsl _ (show i + span isWord (s.drop i)≤s.length from by omega)
    have ht:mD (s.drop i)=if 64 < span isWord (s.drop i) then (0,[],0,3) else (1,(s.drop i).take (span isWord (s.drop i)),span isWord (s.drop i),0):=by
     rw [hh]; simp only [mD,hd,hl,Kw,if_false,if_true,Bool.false_eq_true]
    rw [ht]; generalize span isWord (s.drop i)=n at *; by_cases h64:64 < n
    · simp (disch:=omega) only [aT,aX,bD,aR,aY,if_pos,if_neg,ak,aC,aD,aF,aG,aJ,aI,aH,decide_eq_true_eq,beq_iff_eq,bne_iff_ne,ne_eq,Bool.and_eq_true,Bool.or_eq_true,Bool.not_eq_true',Bool.not_eq_true,decide_eq_false_iff_not,beq_eq_false_iff_ne,bne_eq_false_iff_eq,Int.toNat_add,Int.toNat_natCast,Int.reduceToNat,Int.zero_add,Int.add_zero,Nat.add_zero,Nat.zero_add,Bool.true_and,Bool.and_true,Bool.false_and,Bool.and_false,Bool.true_or,Bool.or_true,Bool.false_or,Bool.or_false,Bool.not_true,Bool.not_false,Bool.false_eq_true,Bool.true_eq_false,reduceCtorEq,not_true_eq_false,not_false_eq_true,if_true,if_false,decide_true,decide_false]; rfl
    · simp (disch:=omega) only [aT,aX,bD,aR,aY,if_pos,if_neg,ak,aC,aD,aF,aG,aJ,aI,aH,decide_eq_true_eq,beq_iff_eq,bne_iff_ne,ne_eq,Bool.and_eq_true,Bool.or_eq_true,Bool.not_eq_true',Bool.not_eq_true,decide_eq_false_iff_not,beq_eq_false_iff_ne,bne_eq_false_iff_eq,Int.toNat_add,Int.toNat_natCast,Int.reduceToNat,Int.zero_add,Int.add_zero,Nat.add_zero,Nat.zero_add,Bool.true_and,Bool.and_true,Bool.false_and,Bool.and_false,Bool.true_or,Bool.or_true,Bool.false_or,Bool.or_false,Bool.not_true,Bool.not_false,Bool.false_eq_true,Bool.true_eq_false,reduceCtorEq,not_true_eq_false,not_false_eq_true,if_true,if_false,decide_true,decide_false]; rw [uK]; rfl
   | false=>
    have h0:span isWord (s.drop i)=0:=by rw [hh,Jd,isWord,hl,hd]; rfl
    have hol:opn (s.drop i)≤(s.drop i).length:=by
     rw [hh]; cases s.drop (i + 1) with
     | nil=>simp only [opn]; split <;> simp
     | cons b r=>simp only [opn]; (repeat' split) <;> simp
    rw [o7] at hol; have hsn:=hsl _ (show i + opn (s.drop i)≤s.length from by omega)
    have ht:mD (s.drop i)=if opn (s.drop i)=0 then (0,[],0,5) else (4,(s.drop i).take (opn (s.drop i)),opn (s.drop i),0):=by
     rw [hh]; simp only [mD,hd,hl,Kw,if_false,if_true,Bool.false_eq_true]
    rw [ht,h0]; simp (disch:=omega) only [aeC hs h,aT,aX,bD,aR,aY,if_pos,if_neg,ak,aC,aD,aF,aG,aJ,aI,aH,decide_eq_true_eq,beq_iff_eq,bne_iff_ne,ne_eq,Bool.and_eq_true,Bool.or_eq_true,Bool.not_eq_true',Bool.not_eq_true,decide_eq_false_iff_not,beq_eq_false_iff_ne,bne_eq_false_iff_eq,Int.toNat_add,Int.toNat_natCast,Int.reduceToNat,Int.zero_add,Int.add_zero,Nat.add_zero,Nat.zero_add,Bool.true_and,Bool.and_true,Bool.false_and,Bool.and_false,Bool.true_or,Bool.or_true,Bool.false_or,Bool.or_false,Bool.not_true,Bool.not_false,Bool.false_eq_true,Bool.true_eq_false,reduceCtorEq,not_true_eq_false,not_false_eq_true,if_true,if_false,decide_true,decide_false]; generalize opn (s.drop i)=n at *; by_cases ho:n=0
    · simp (disch:=omega) only [aT,aX,bD,aR,aY,if_pos,if_neg,ak,aC,aD,aF,aG,aJ,aI,aH,decide_eq_true_eq,beq_iff_eq,bne_iff_ne,ne_eq,Bool.and_eq_true,Bool.or_eq_true,Bool.not_eq_true',Bool.not_eq_true,decide_eq_false_iff_not,beq_eq_false_iff_ne,bne_eq_false_iff_eq,Int.toNat_add,Int.toNat_natCast,Int.reduceToNat,Int.zero_add,Int.add_zero,Nat.add_zero,Nat.zero_add,Bool.true_and,Bool.and_true,Bool.false_and,Bool.and_false,Bool.true_or,Bool.or_true,Bool.false_or,Bool.or_false,Bool.not_true,Bool.not_false,Bool.false_eq_true,Bool.true_eq_false,reduceCtorEq,not_true_eq_false,not_false_eq_true,if_true,if_false,decide_true,decide_false]; rfl
    · simp (disch:=omega) only [aT,aX,bD,aR,aY,if_pos,if_neg,ak,aC,aD,aF,aG,aJ,aI,aH,decide_eq_true_eq,beq_iff_eq,bne_iff_ne,ne_eq,Bool.and_eq_true,Bool.or_eq_true,Bool.not_eq_true',Bool.not_eq_true,decide_eq_false_iff_not,beq_eq_false_iff_ne,bne_eq_false_iff_eq,Int.toNat_add,Int.toNat_natCast,Int.reduceToNat,Int.zero_add,Int.add_zero,Nat.add_zero,Nat.zero_add,Bool.true_and,Bool.and_true,Bool.false_and,Bool.and_false,Bool.true_or,Bool.or_true,Bool.false_or,Bool.or_false,Bool.not_true,Bool.not_false,Bool.false_eq_true,Bool.true_eq_false,reduceCtorEq,not_true_eq_false,not_false_eq_true,if_true,if_false,decide_true,decide_false]; rw [uK]; rfl
end Go.Ft
namespace Go.Ft
open Go
attribute [local congr] gK
theorem ZK (s:Str) (i:Nat):(ByteArray.mk s.toArray).get! i=s.getD i 0:=by
 unfold ByteArray.get!; simp [getElem!_def]; rfl
theorem size_mk' (s:Str):(ByteArray.mk s.toArray).size=s.length:=by simp [ByteArray.size]
theorem dec_lt {s:Str} {p:Nat} (hc:(s.getD p 0).toNat < 128):dec s p=((s.getD p 0).toNat,1):=by
 unfold dec Utf8.decode; simp only [ZK,Nat.add_zero]; rw [if_pos hc]
theorem Uz {s:Str} {p:Nat} (h:p < s.length) (hc:128≤(s.getD p 0).toNat):
  128≤(dec s p).1∧1≤(dec s p).2∧p + (dec s p).2≤s.length∧∀ j,1≤j→j < (dec s p).2→128≤(s.getD (p + j) 0).toNat:=by
 unfold dec Utf8.decode; simp only [ZK,Nat.add_zero,size_mk',Utf8.runeError]; rw [if_neg (by omega)]
 repeat' split
 all_goals (rename_i h1; simp only [Bool.and_eq_true,decide_eq_true_eq,beq_iff_eq] at *)
 all_goals refine ⟨by (try simp only); omega,by (try simp only); omega,by (try simp only); omega,fun j h2 h3=>?_⟩
 all_goals (try simp only at h3)
 all_goals try (exfalso; omega)
 all_goals
  rcases Nat.lt_or_ge j 2 with g1 | g1
  ·
   have e:j=1:=Nat.le_antisymm (Nat.le_of_lt_succ g1) h2; subst e; omega
  ·
   rcases Nat.lt_or_ge j 3 with g2 | g2
   ·
    have e:j=2:=Nat.le_antisymm (Nat.le_of_lt_succ g2) g1; subst e; omega
   ·
    have e:j=3∨4≤j:=by omega
    rcases e with e | e
    ·
     subst e; omega
    · omega
def Bd (s:Str) (n:Nat):Prop:=n=s.length∨(s.getD n 0).toNat < 128∨(0 < n∧(s.getD (n - 1) 0).toNat < 128)
theorem Z5 {s:Str} {p n:Nat} (h:p < n) (hn:n≤s.length) (hb:Bd s n):p + (dec s p).2≤n:=by
 rcases Nat.lt_or_ge (s.getD p 0).toNat 128 with hc | hc
 · rw [dec_lt hc]; omega
 ·
  obtain ⟨_,h1,h2,h3⟩:=Uz (by omega:p < s.length) hc; rcases Nat.lt_or_ge n (p + (dec s p).2) with hlt | hge
  ·
   exfalso; have a1:=h3 (n - p) (by omega) (by omega); rw [show p + (n - p)=n from by omega] at a1; rcases hb with hb | hb | ⟨hb0,hb⟩
   · omega
   · omega
   ·
    by_cases e:n - 1=p
    · rw [e] at hb; omega
    ·
     have a2:=h3 (n - 1 - p) (by omega) (by omega); rw [show p + (n - 1 - p)=n - 1 from by omega] at a2; omega
  · exact hge
def qC (c:UInt8):Bool:=(c.toNat:Int) != 10
@[simp] theorem ag1 (c:UInt8):oV c=some (qC c):=rfl
@[simp] theorem Tf (r:Int):vO r=some ((r == 32) || (r == 9)):=rfl
def W_ (t:Str) (o:Nat):Nat:=if t=[40]∨t=[91] then o + 1 else if t=[41]∨t=[93] then o - 1 else o
theorem Te (t:Str) (o:Nat) (h:o < 4611686018427387904):rE t (o:Int)=some ((W_ t o:Nat):Int):=by
 unfold rE W_; by_cases h1:t=[40]
 · subst h1; simp (disch:=omega) only [aT,aX,bD,aR,aY,if_pos,if_neg,ak,aC,aD,aF,aG,aJ,aI,aH,decide_eq_true_eq,beq_iff_eq,bne_iff_ne,ne_eq,Bool.and_eq_true,Bool.or_eq_true,Bool.not_eq_true',Bool.not_eq_true,decide_eq_false_iff_not,beq_eq_false_iff_ne,bne_eq_false_iff_eq,Int.toNat_add,Int.toNat_natCast,Int.reduceToNat,Int.zero_add,Int.add_zero,Nat.add_zero,Nat.zero_add,Bool.true_and,Bool.and_true,Bool.false_and,Bool.and_false,Bool.true_or,Bool.or_true,Bool.false_or,Bool.or_false,Bool.not_true,Bool.not_false,Bool.false_eq_true,Bool.true_eq_false,reduceCtorEq,not_true_eq_false,not_false_eq_true,if_true,if_false,decide_true,decide_false]; simp
 ·
  by_cases h2:t=[91]
  · subst h2; simp (disch:=omega) only [aT,aX,bD,aR,aY,if_pos,if_neg,ak,aC,aD,aF,aG,aJ,aI,aH,decide_eq_true_eq,beq_iff_eq,bne_iff_ne,ne_eq,Bool.and_eq_true,Bool.or_eq_true,Bool.not_eq_true',Bool.not_eq_true,decide_eq_false_iff_not,beq_eq_false_iff_ne,bne_eq_false_iff_eq,Int.toNat_add,Int.toNat_natCast,Int.reduceToNat,Int.zero_add,Int.add_zero,Nat.add_zero,Nat.zero_add,Bool.true_and,Bool.and_true,Bool.false_and,Bool.and_false,Bool.true_or,Bool.or_true,Bool.false_or,Bool.or_false,Bool.not_true,Bool.not_false,Bool.false_eq_true,Bool.true_eq_false,reduceCtorEq,not_true_eq_false,not_false_eq_true,if_true,if_false,decide_true,decide_false]; simp
  ·
   by_cases h3:t=[41]
   ·
    subst h3; simp (disch:=omega) only [aT,aX,bD,aR,aY,if_pos,if_neg,ak,aC,aD,aF,aG,aJ,aI,aH,decide_eq_true_eq,beq_iff_eq,bne_iff_ne,ne_eq,Bool.and_eq_true,Bool.or_eq_true,Bool.not_eq_true',Bool.not_eq_true,decide_eq_false_iff_not,beq_eq_false_iff_ne,bne_eq_false_iff_eq,Int.toNat_add,Int.toNat_natCast,Int.reduceToNat,Int.zero_add,Int.add_zero,Nat.add_zero,Nat.zero_add,Bool.true_and,Bool.and_true,Bool.false_and,Bool.and_false,Bool.true_or,Bool.or_true,Bool.false_or,Bool.or_false,Bool.not_true,Bool.not_false,Bool.false_eq_true,Bool.true_eq_false,reduceCtorEq,not_true_eq_false,not_false_eq_true,if_true,if_false,decide_true,decide_false]; by_cases h4:1 < o
    · rw [if_pos (by omega)]; simp; omega
    · rw [if_neg (by omega)]; simp; omega
   ·
    by_cases h4:t=[93]
    ·
     subst h4; simp (disch:=omega) only [aT,aX,bD,aR,aY,if_pos,if_neg,ak,aC,aD,aF,aG,aJ,aI,aH,decide_eq_true_eq,beq_iff_eq,bne_iff_ne,ne_eq,Bool.and_eq_true,Bool.or_eq_true,Bool.not_eq_true',Bool.not_eq_true,decide_eq_false_iff_not,beq_eq_false_iff_ne,bne_eq_false_iff_eq,Int.toNat_add,Int.toNat_natCast,Int.reduceToNat,Int.zero_add,Int.add_zero,Nat.add_zero,Nat.zero_add,Bool.true_and,Bool.and_true,Bool.false_and,Bool.and_false,Bool.true_or,Bool.or_true,Bool.false_or,Bool.or_false,Bool.not_true,Bool.not_false,Bool.false_eq_true,Bool.true_eq_false,reduceCtorEq,not_true_eq_false,not_false_eq_true,if_true,if_false,decide_true,decide_false]; by_cases h4:1 < o
     · rw [if_pos (by omega)]; simp; omega
     · rw [if_neg (by omega)]; simp; omega
    · simp [h1,h2,h3,h4]
theorem O7 (k:aA) (o:Nat) (h:o < 4611686018427387904):pO (o:Int) k=some (((if k.kind=4 then W_ k.text o else o:Nat)):Int):=by
 unfold pO W_; by_cases hk:k.kind=4
 ·
  rw [hk]; by_cases h1:k.text=[40]
  · rw [h1]; simp (disch:=omega) only [aT,aX,bD,aR,aY,if_pos,if_neg,ak,aC,aD,aF,aG,aJ,aI,aH,decide_eq_true_eq,beq_iff_eq,bne_iff_ne,ne_eq,Bool.and_eq_true,Bool.or_eq_true,Bool.not_eq_true',Bool.not_eq_true,decide_eq_false_iff_not,beq_eq_false_iff_ne,bne_eq_false_iff_eq,Int.toNat_add,Int.toNat_natCast,Int.reduceToNat,Int.zero_add,Int.add_zero,Nat.add_zero,Nat.zero_add,Bool.true_and,Bool.and_true,Bool.false_and,Bool.and_false,Bool.true_or,Bool.or_true,Bool.false_or,Bool.or_false,Bool.not_true,Bool.not_false,Bool.false_eq_true,Bool.true_eq_false,reduceCtorEq,not_true_eq_false,not_false_eq_true,if_true,if_false,decide_true,decide_false]; simp
  ·
   by_cases h2:k.text=[91]
   · rw [h2]; simp (disch:=omega) only [aT,aX,bD,aR,aY,if_pos,if_neg,ak,aC,aD,aF,aG,aJ,aI,aH,decide_eq_true_eq,beq_iff_eq,bne_iff_ne,ne_eq,Bool.and_eq_true,Bool.or_eq_true,Bool.not_eq_true',Bool.not_eq_true,decide_eq_false_iff_not,beq_eq_false_iff_ne,bne_eq_false_iff_eq,Int.toNat_add,Int.toNat_natCast,Int.reduceToNat,Int.zero_add,Int.add_zero,Nat.add_zero,Nat.zero_add,Bool.true_and,Bool.and_true,Bool.false_and,Bool.and_false,Bool.true_or,Bool.or_true,Bool.false_or,Bool.or_false,Bool.not_true,Bool.not_false,Bool.false_eq_true,Bool.true_eq_false,reduceCtorEq,not_true_eq_false,not_false_eq_true,if_true,if_false,decide_true,decide_false]; simp
   ·
    by_cases h3:k.text=[41]
    ·
     rw [h3]; by_cases h4:0 < o
     ·
      have:decide ((0:Int) < (o:Int))=true:=by simp; omega
      rw [this]; simp (disch:=omega) only [aT,aX,bD,aR,aY,if_pos,if_neg,ak,aC,aD,aF,aG,aJ,aI,aH,decide_eq_true_eq,beq_iff_eq,bne_iff_ne,ne_eq,Bool.and_eq_true,Bool.or_eq_true,Bool.not_eq_true',Bool.not_eq_true,decide_eq_false_iff_not,beq_eq_false_iff_ne,bne_eq_false_iff_eq,Int.toNat_add,Int.toNat_natCast,Int.reduceToNat,Int.zero_add,Int.add_zero,Nat.add_zero,Nat.zero_add,Bool.true_and,Bool.and_true,Bool.false_and,Bool.and_false,Bool.true_or,Bool.or_true,Bool.false_or,Bool.or_false,Bool.not_true,Bool.not_false,Bool.false_eq_true,Bool.true_eq_false,reduceCtorEq,not_true_eq_false,not_false_eq_true,if_true,if_false,decide_true,decide_false]; simp; omega
     ·
      have:decide ((0:Int) < (o:Int))=false:=by simp; omega
      rw [this]; simp; omega
    ·
     by_cases h4:k.text=[93]
     ·
      rw [h4]; by_cases h5:0 < o
      ·
       have:decide ((0:Int) < (o:Int))=true:=by simp; omega
       rw [this]; simp (disch:=omega) only [aT,aX,bD,aR,aY,if_pos,if_neg,ak,aC,aD,aF,aG,aJ,aI,aH,decide_eq_true_eq,beq_iff_eq,bne_iff_ne,ne_eq,Bool.and_eq_true,Bool.or_eq_true,Bool.not_eq_true',Bool.not_eq_true,decide_eq_false_iff_not,beq_eq_false_iff_ne,bne_eq_false_iff_eq,Int.toNat_add,Int.toNat_natCast,Int.reduceToNat,Int.zero_add,Int.add_zero,Nat.add_zero,Nat.zero_add,Bool.true_and,Bool.and_true,Bool.false_and,Bool.and_false,Bool.true_or,Bool.or_true,Bool.false_or,Bool.or_false,Bool.not_true,Bool.not_false,Bool.false_eq_true,Bool.true_eq_false,reduceCtorEq,not_true_eq_false,not_false_eq_true,if_true,if_false,decide_true,decide_false]; simp; omega
      ·
       have:decide ((0:Int) < (o:Int))=false:=by simp; omega
       rw [this]; simp; omega
     · simp [h1,h2,h3,h4]
 · simp [hk]
def scan :Nat→Nat→Nat→Bool→Str→List aA × Option (Nat × Int)
 | _,_,_,_,[]=>([],none)
 | k + 1,p,o,nl,_ :: r=>scan k (p + 1) o nl r
 | 0,p,o,nl,c :: r=>
  if c.toNat=32∨c.toNat=9 then scan 0 (p + 1) o nl r
  else if c.toNat=35 then scan (span qC r) (p + 1) o nl r
  else if c.toNat=10 then (if o=0∧nl=false then (⟨5,[],p⟩ :: (scan 0 (p + 1) o true r).1,(scan 0 (p + 1) o true r).2) else scan 0 (p + 1) o nl r)
  else if (mD (c :: r)).2.2.2=0 then
   (⟨(mD (c :: r)).1,(mD (c :: r)).2.1,p⟩ :: (scan ((mD (c :: r)).2.2.1 - 1) (p + 1) (if (mD (c :: r)).1=4 then W_ (mD (c :: r)).2.1 o else o) false r).1,
    (scan ((mD (c :: r)).2.2.1 - 1) (p + 1) (if (mD (c :: r)).1=4 then W_ (mD (c :: r)).2.1 o else o) false r).2)
  else ([],some (p,(mD (c :: r)).2.2.2))
theorem Fj :∀ (j a p o:Nat) (nl:Bool) (r:Str),j≤r.length→scan (a + j) p o nl r=scan a (p + j) o nl (r.drop j)
 | 0,a,p,o,nl,r,_=>rfl
 | j + 1,a,p,o,nl,[],h=>by simp at h
 | j + 1,a,p,o,nl,c :: r,h=>by
  rw [show a + (j + 1)=(a + j) + 1 from rfl,scan,Fj j a (p + 1) o nl r (by simpa using h),List.drop_succ_cons]; rw [show p + 1 + j=p + (j + 1) from by omega]
def fin (out:List aA) (x:List aA × Option (Nat × Int)):List aA × Int × Int:=
 match x.2 with
 | none=>(out ++ x.1,0,0)
 | some (p,e)=>([],(p:Int),e)
def Gz (out:List aA):Bool:=match out.getLast? with | some t=>t.kind == 5 | none=>false
theorem EF (out:List aA) (t:aA):Gz (out ++ [t])=(t.kind == 5):=by simp [Gz]
theorem EP (out:List aA) (t:aA) (x:List aA × Option (Nat × Int)):fin out (t :: x.1,x.2)=fin (out ++ [t]) x:=by
 unfold fin; cases x.2 <;> simp
theorem Rt :∀ (N:Nat) (r b:Str) (m:Nat),r.length≤N→(txt 0 b m r).2.2=0→m < (txt 0 b m r).2.1∧(txt 0 b m r).2.1≤m + r.length∧(r.getD ((txt 0 b m r).2.1 - m - 1) 0).toNat=34
 | N,[],b,m,_,h=>by simp [txt] at h
 | 0,c :: r,b,m,hN,h=>by simp at hN
 | N + 1,c :: r,b,m,hN,h=>by
  rw [Ls] at h ⊢; by_cases Kw:c.toNat=34
  ·
   rw [if_pos Kw] at h ⊢; by_cases hl:4096 < b.length
   · rw [if_pos hl] at h; simp at h
   ·
    rw [if_neg hl]; simp only [List.length_cons]; refine ⟨by omega,by omega,?_⟩; rw [show m + 1 - m - 1=0 from by omega]; exact Kw
  ·
   rw [if_neg Kw] at h ⊢; by_cases he:(chr (c :: r)).2.2=0
   ·
    rw [if_pos he] at h ⊢; obtain ⟨n1,n2⟩:=VY he; generalize (chr (c :: r)).2.1=n at n1 n2 h ⊢; have hlen:((c :: r).drop n).length=r.length + 1 - n:=by simp
    have ih:=Rt N ((c :: r).drop n) (b ++ [(chr (c :: r)).1]) (m + n) (by rw [hlen]; simp at hN n2; omega) h; rw [hlen] at ih; simp only [List.length_cons] at n2 ⊢; refine ⟨by omega,by omega,?_⟩; have h3:=ih.2.2; rw [List.getD_eq_getElem?_getD,List.getElem?_drop] at h3; rw [List.getD_eq_getElem?_getD]; rw [show n + ((txt 0 (b ++ [(chr (c :: r)).1]) (m + n) ((c :: r).drop n)).2.1 - (m + n) - 1)=(txt 0 (b ++ [(chr (c :: r)).1]) (m + n) ((c :: r).drop n)).2.1 - m - 1 from by omega] at h3; exact h3
   · rw [if_neg he] at h; exact absurd h he
theorem OX (p:UInt8→Bool) (l:Str) {i:Nat} (h:i < span p l):p (l.getD i 0)=true:=by
 have h2:=yU p l
 have:=Je p l (l.getD i 0) (by
  rw [List.mem_take_iff_getElem]
  exact ⟨i,by omega,by rw [List.getD_eq_getElem?_getD,List.getElem?_eq_getElem (by omega),Option.getD_some]⟩)
 exact this
theorem ae0 (l:Str):opn l≤l.length:=by
 match l with
 | []=>simp [opn]
 | [a]=>simp only [opn]; split <;> simp
 | a :: b :: r=>simp only [opn]; (repeat' split) <;> simp
theorem Dt {a:UInt8} (h:AU [a]=true):a.toNat < 128:=by
 simp only [AU,Bool.or_eq_true,beq_iff_eq,List.cons.injEq,and_true,reduceCtorEq,and_false,false_or] at h; have:a=60∨a=62∨a=43∨a=45∨a=42∨a=47∨a=37∨a=33∨a=63∨a=58∨a=46∨a=44∨a=61∨a=40∨a=41∨a=91∨a=93∨a=123∨a=125:=h; rcases this with rfl | rfl | rfl | rfl | rfl | rfl | rfl | rfl | rfl | rfl | rfl | rfl | rfl | rfl | rfl | rfl | rfl | rfl | rfl <;> decide
theorem Kv {a b:UInt8} (h:AU [a,b]=true):a.toNat < 128∧b.toNat < 128:=by
 simp only [AU,Bool.or_eq_true,beq_iff_eq,List.cons.injEq,and_true,reduceCtorEq,and_false,or_false] at h; rcases h with ⟨rfl,rfl⟩ | ⟨rfl,rfl⟩ | ⟨rfl,rfl⟩ | ⟨rfl,rfl⟩ | ⟨rfl,rfl⟩ | ⟨rfl,rfl⟩ <;> decide
theorem Ja {c:UInt8} {r:Str} (h:(mD (c :: r)).2.2.2=0):1≤(mD (c :: r)).2.2.1∧(mD (c :: r)).2.2.1≤r.length + 1∧((c :: r).getD ((mD (c :: r)).2.2.1 - 1) 0).toNat < 128∧c.toNat < 128:=by
 simp only [mD] at h ⊢; by_cases hd:isDigit c=true
 ·
  rw [if_pos hd] at h ⊢; have hpos:0 < span isDigit (c :: r):=by rw [kg,hd]; simp
  have hle:=yU isDigit (c :: r); have hg:=OX isDigit (c :: r) (i:=span isDigit (c :: r) - 1) (by omega); rw [nP] at hd hg; by_cases h1:(1 < span isDigit (c :: r)∧c.toNat=48)∨span isDigit (c :: r) < span isWord (c :: r)
  · rw [if_pos h1] at h; simp at h
  ·
   rw [if_neg h1] at h ⊢; by_cases h2:BX < val ((c :: r).take (span isDigit (c :: r)))
   · rw [if_pos h2] at h; simp at h
   ·
    rw [if_neg h2]; simp only [List.length_cons] at hle; have hg2:((c :: r).getD (span isDigit (c :: r) - 1) 0).toNat < 128:=by omega
    exact ⟨hpos,hle,hg2,by omega⟩
 ·
  rw [if_neg hd] at h ⊢; by_cases Kw:c.toNat=34
  ·
   rw [if_pos Kw] at h ⊢; by_cases he:(txt 0 [] 1 r).2.2=0
   ·
    rw [if_pos he]; obtain ⟨a1,a2,a3⟩:=Rt r.length r [] 1 (Nat.le_refl _) he; refine ⟨by simp only; omega,by simp only; omega,?_,by omega⟩; simp only; obtain ⟨q,hq⟩:∃ q,(txt 0 [] 1 r).2.1=q + 2:=⟨(txt 0 [] 1 r).2.1 - 2,by omega⟩; rw [hq] at a3 ⊢; have a3:(r.getD q 0).toNat=34:=a3; show ((c :: r).getD (q + 1) 0).toNat < 128; rw [List.getD_cons_succ]; omega
   · rw [if_neg he] at h; exact absurd h he
  ·
   rw [if_neg Kw] at h ⊢; by_cases hl:mM c=true
   ·
    rw [if_pos hl] at h ⊢; have hpos:0 < span isWord (c :: r):=by rw [kg,isWord,hl]; simp
    have hle:=yU isWord (c :: r); have hg:=OX isWord (c :: r) (i:=span isWord (c :: r) - 1) (by omega); rw [ze] at hl; simp only [isWord,Bool.or_eq_true,ze,nP] at hg; by_cases h2:64 < span isWord (c :: r)
    · rw [if_pos h2] at h; simp at h
    ·
     rw [if_neg h2]; simp only [List.length_cons] at hle; have hg2:((c :: r).getD (span isWord (c :: r) - 1) 0).toNat < 128:=by omega
     exact ⟨hpos,hle,hg2,by omega⟩
   ·
    rw [if_neg hl] at h ⊢; have hle:=ae0 (c :: r); by_cases h2:opn (c :: r)=0
    · rw [if_pos h2] at h; simp at h
    ·
     rw [if_neg h2]; simp only [List.length_cons] at hle; refine ⟨by simp only; omega,hle,?_⟩; cases r with
     | nil=>
      simp only [opn] at h2 ⊢; split
      · rename_i ho; exact ⟨Dt ho,Dt ho⟩
      · rename_i ho; simp [ho] at h2
     | cons b r=>
      simp only [opn] at h2 ⊢; split
      · rename_i ho; exact ⟨(Kv ho).2,(Kv ho).1⟩
      ·
       rename_i ho2; split
       · rename_i ho; exact ⟨Dt ho,Dt ho⟩
       · rename_i ho; simp [ho,ho2] at h2
end Go.Ft
namespace Go.Ft
open Go
attribute [local congr] gK
theorem Pg (out:List aA) (h:out≠[]):idx out (bL ((out.length:Int) - 1))=if h2:out.length < 4611686018427387904 then some (out.getLast h) else idx out (bL ((out.length:Int) - 1)):=by
 split
 ·
  rename_i h2; have hl:0 < out.length:=List.length_pos_iff.2 h; rw [aT (by omega) (by omega),show (out.length:Int) - 1=((out.length - 1:Nat):Int) from by omega,Jv (by omega)]; congr 1; exact (List.getLast_eq_getElem h).symm
 · rfl
theorem Qq (out:List aA) (o:Nat) (h:out.length < 4611686018427387904):
  (if (o:Int)=0 then if (out.length:Int)=0 then some true else ay (idx out ((out.length:Int) - 1)) fun e1=>some (e1.kind != 5) else some false)=some (decide (o=0∧Gz out=false)):=by
 by_cases ho:o=0
 ·
  subst ho; by_cases he:out=[]
  · subst he; simp [Gz]
  ·
   have hl:0 < out.length:=List.length_pos_iff.2 he; have hl2:¬ ((out.length:Int)=0):=by omega
   have h1:=Pg out he; rw [dif_pos h,aT (by omega) (by omega)] at h1; rw [h1]; simp [hl2,Gz,List.getLast?_eq_some_getLast he]; cases hk:(out.getLast he).kind == 5 <;> simp_all
 ·
  have:¬ (o:Int)=0:=by omega
  simp [ho,this]
theorem ahM {s:Str} {p:Nat} (h:p < s.length) (hc:(s.getD p 0).toNat≠10):p + 1 + span qC (s.drop (p + 1))≤s.length∧Bd s (p + 1 + span qC (s.drop (p + 1))):=by
 have hl:=yU qC (s.drop (p + 1)); rw [o7] at hl; refine ⟨by omega,?_⟩; rcases Nat.lt_or_ge (p + 1 + span qC (s.drop (p + 1))) s.length with h1 | h1
 ·
  right; left
  have key:∀ l:Str,span qC l < l.length→(l.getD (span qC l) 0).toNat=10:=by
   intro l
   induction l with
   | nil=>simp
   | cons c l ih=>
    rw [kg]; cases hn:qC c with
    | true=>simp only [if_true,List.length_cons]; intro h2; rw [List.getD_cons_succ]; exact ih (by omega)
    | false=>simp only [Bool.false_eq_true,if_false,List.length_cons]; intro _; simp [qC] at hn; rw [List.getD_cons_zero]; omega
  have:=key (s.drop (p + 1)) (by rw [o7]; omega); rw [List.getD_eq_getElem?_getD,List.getElem?_drop] at this; rw [List.getD_eq_getElem?_getD]; omega
 · left; omega
theorem abN {c:UInt8} (r:Str) (h:c.toNat≠10):span qC (c :: r)=span qC r + 1:=by
 rw [kg,if_pos]; simp [qC]; omega
theorem OU (c:UInt8) (r:Str):(mD (c :: r)).1≠5:=by
 simp only [mD]
 repeat' split
 all_goals simp
theorem rA {s:Str} (hs:s.length≤2147483648):∀ (k p nx o:Nat) (out:List aA),s.length < k + p→p≤s.length→nx≤s.length→(p < nx→Bd s nx)→out.length≤p→o≤p→
  gY s k out (nx:Int) (o:Int) p=some (fin out (scan (nx - p) p o (Gz out) (s.drop p)))
 | 0,p,nx,o,out,h,h',_,_,_,_=>by omega
 | k + 1,p,nx,o,out,h,hp,hnx,hb,hout,ho=>by
  rw [gY]; by_cases hi:p < s.length
  ·
   rw [if_pos (by simpa using hi)]; by_cases hlt:p < nx
   ·
    
    have hst:=Z5 hlt hnx (hb hlt)
    have hpos:1≤(dec s p).2:=by
     rcases Nat.lt_or_ge (s.getD p 0).toNat 128 with hc | hc
     · rw [dec_lt hc]; exact Nat.le_refl _
     · exact (Uz hi hc).2.1
    simp (disch:=omega) only [aT,aX,bD,aR,aY,if_pos,if_neg,ak,aC,aD,aF,aG,aJ,aI,aH,decide_eq_true_eq,beq_iff_eq,bne_iff_ne,ne_eq,Bool.and_eq_true,Bool.or_eq_true,Bool.not_eq_true',Bool.not_eq_true,decide_eq_false_iff_not,beq_eq_false_iff_ne,bne_eq_false_iff_eq,Int.toNat_add,Int.toNat_natCast,Int.reduceToNat,Int.zero_add,Int.add_zero,Nat.add_zero,Nat.zero_add,Bool.true_and,Bool.and_true,Bool.false_and,Bool.and_false,Bool.true_or,Bool.or_true,Bool.false_or,Bool.or_false,Bool.not_true,Bool.not_false,Bool.false_eq_true,Bool.true_eq_false,reduceCtorEq,not_true_eq_false,not_false_eq_true,if_true,if_false,decide_true,decide_false]; rw [rA hs k (p + (dec s p).2) nx o out (by omega) (by omega) hnx (fun _=>hb hlt) (by omega) (by omega)]; rw [show nx - p=(nx - (p + (dec s p).2)) + (dec s p).2 from by omega,Fj _ _ _ _ _ _ (by rw [o7]; omega),List.drop_drop]
   ·
    have e0:nx - p=0:=by omega
    rw [e0]; have hh:=getD_drop hi; rcases Nat.lt_or_ge (s.getD p 0).toNat 128 with hc | hc
    ·
     rw [dec_lt hc]; simp (disch:=omega) only [Tf,aT,aX,bD,aR,aY,if_pos,if_neg,ak,aC,aD,aF,aG,aJ,aI,aH,decide_eq_true_eq,beq_iff_eq,bne_iff_ne,ne_eq,Bool.and_eq_true,Bool.or_eq_true,Bool.not_eq_true',Bool.not_eq_true,decide_eq_false_iff_not,beq_eq_false_iff_ne,bne_eq_false_iff_eq,Int.toNat_add,Int.toNat_natCast,Int.reduceToNat,Int.zero_add,Int.add_zero,Nat.add_zero,Nat.zero_add,Bool.true_and,Bool.and_true,Bool.false_and,Bool.and_false,Bool.true_or,Bool.or_true,Bool.false_or,Bool.or_false,Bool.not_true,Bool.not_false,Bool.false_eq_true,Bool.true_eq_false,reduceCtorEq,not_true_eq_false,not_false_eq_true,if_true,if_false,decide_true,decide_false]; by_cases hbl:(s.getD p 0).toNat=32∨(s.getD p 0).toNat=9
     ·
      have e1:(((s.getD p 0).toNat:Int) == 32 || ((s.getD p 0).toNat:Int) == 9)=true:=by simp only [Bool.or_eq_true,beq_iff_eq]; omega
      simp (disch:=omega) only [e1,aT,aX,bD,aR,aY,if_pos,if_neg,ak,aC,aD,aF,aG,aJ,aI,aH,decide_eq_true_eq,beq_iff_eq,bne_iff_ne,ne_eq,Bool.and_eq_true,Bool.or_eq_true,Bool.not_eq_true',Bool.not_eq_true,decide_eq_false_iff_not,beq_eq_false_iff_ne,bne_eq_false_iff_eq,Int.toNat_add,Int.toNat_natCast,Int.reduceToNat,Int.zero_add,Int.add_zero,Nat.add_zero,Nat.zero_add,Bool.true_and,Bool.and_true,Bool.false_and,Bool.and_false,Bool.true_or,Bool.or_true,Bool.false_or,Bool.or_false,Bool.not_true,Bool.not_false,Bool.false_eq_true,Bool.true_eq_false,reduceCtorEq,not_true_eq_false,not_false_eq_true,if_true,if_false,decide_true,decide_false]; rw [rA hs k (p + 1) nx o out (by omega) (by omega) hnx (fun h=>by omega) (by omega) (by omega),hh,show nx - (p + 1)=0 from by omega]; rw [scan,if_pos hbl]
     ·
      have e1:(((s.getD p 0).toNat:Int) == 32 || ((s.getD p 0).toNat:Int) == 9)=false:=by simp only [Bool.or_eq_false_iff,beq_eq_false_iff_ne]; omega
      simp (disch:=omega) only [e1,aT,aX,bD,aR,aY,if_pos,if_neg,ak,aC,aD,aF,aG,aJ,aI,aH,decide_eq_true_eq,beq_iff_eq,bne_iff_ne,ne_eq,Bool.and_eq_true,Bool.or_eq_true,Bool.not_eq_true',Bool.not_eq_true,decide_eq_false_iff_not,beq_eq_false_iff_ne,bne_eq_false_iff_eq,Int.toNat_add,Int.toNat_natCast,Int.reduceToNat,Int.zero_add,Int.add_zero,Nat.add_zero,Nat.zero_add,Bool.true_and,Bool.and_true,Bool.false_and,Bool.and_false,Bool.true_or,Bool.or_true,Bool.false_or,Bool.or_false,Bool.not_true,Bool.not_false,Bool.false_eq_true,Bool.true_eq_false,reduceCtorEq,not_true_eq_false,not_false_eq_true,if_true,if_false,decide_true,decide_false]; by_cases ZI:(s.getD p 0).toNat=35
      ·
       simp (disch:=omega) only [Li ag1 (s:=s) (by omega) hp,aT,aX,bD,aR,aY,if_pos,if_neg,ak,aC,aD,aF,aG,aJ,aI,aH,decide_eq_true_eq,beq_iff_eq,bne_iff_ne,ne_eq,Bool.and_eq_true,Bool.or_eq_true,Bool.not_eq_true',Bool.not_eq_true,decide_eq_false_iff_not,beq_eq_false_iff_ne,bne_eq_false_iff_eq,Int.toNat_add,Int.toNat_natCast,Int.reduceToNat,Int.zero_add,Int.add_zero,Nat.add_zero,Nat.zero_add,Bool.true_and,Bool.and_true,Bool.false_and,Bool.and_false,Bool.true_or,Bool.or_true,Bool.false_or,Bool.or_false,Bool.not_true,Bool.not_false,Bool.false_eq_true,Bool.true_eq_false,reduceCtorEq,not_true_eq_false,not_false_eq_true,if_true,if_false,decide_true,decide_false]; obtain ⟨b1,b2⟩:=ahM hi (by omega); rw [hh,abN _ (by omega)]; rw [show p + (span qC (s.drop (p + 1)) + 1)=p + 1 + span qC (s.drop (p + 1)) from by omega]; rw [rA hs k (p + 1) _ o out (by omega) (by omega) b1 (fun _=>b2) (by omega) (by omega)]; rw [show p + 1 + span qC (s.drop (p + 1)) - (p + 1)=span qC (s.drop (p + 1)) from by omega]; rw [scan,if_neg hbl,if_pos ZI]
      ·
       by_cases h10:(s.getD p 0).toNat=10
       ·
        simp (disch:=omega) only [aT,aX,bD,aR,aY,if_pos,if_neg,ak,aC,aD,aF,aG,aJ,aI,aH,decide_eq_true_eq,beq_iff_eq,bne_iff_ne,ne_eq,Bool.and_eq_true,Bool.or_eq_true,Bool.not_eq_true',Bool.not_eq_true,decide_eq_false_iff_not,beq_eq_false_iff_ne,bne_eq_false_iff_eq,Int.toNat_add,Int.toNat_natCast,Int.reduceToNat,Int.zero_add,Int.add_zero,Nat.add_zero,Nat.zero_add,Bool.true_and,Bool.and_true,Bool.false_and,Bool.and_false,Bool.true_or,Bool.or_true,Bool.false_or,Bool.or_false,Bool.not_true,Bool.not_false,Bool.false_eq_true,Bool.true_eq_false,reduceCtorEq,not_true_eq_false,not_false_eq_true,if_true,if_false,decide_true,decide_false]; rw [Qq out o (by omega),hh,scan,if_neg hbl,if_neg ZI,if_pos h10]; by_cases hn:o=0∧Gz out=false
        ·
         have happ:app out [(⟨5,[],(p:Int)⟩:aA)]=some (out ++ [⟨5,[],(p:Int)⟩]):=aR (by simp [uU]; omega); have hd:decide (o=0∧Gz out=false)=true:=decide_eq_true hn; simp (disch:=omega) only [hd,happ,aT,aX,bD,aR,aY,if_pos,if_neg,ak,aC,aD,aF,aG,aJ,aI,aH,decide_eq_true_eq,beq_iff_eq,bne_iff_ne,ne_eq,Bool.and_eq_true,Bool.or_eq_true,Bool.not_eq_true',Bool.not_eq_true,decide_eq_false_iff_not,beq_eq_false_iff_ne,bne_eq_false_iff_eq,Int.toNat_add,Int.toNat_natCast,Int.reduceToNat,Int.zero_add,Int.add_zero,Nat.add_zero,Nat.zero_add,Bool.true_and,Bool.and_true,Bool.false_and,Bool.and_false,Bool.true_or,Bool.or_true,Bool.false_or,Bool.or_false,Bool.not_true,Bool.not_false,Bool.false_eq_true,Bool.true_eq_false,reduceCtorEq,not_true_eq_false,not_false_eq_true,if_true,if_false,decide_true,decide_false]; rw [rA hs k (p + 1) nx o _ (by omega) (by omega) hnx (fun h=>by omega) (by simp; omega) (by omega),show nx - (p + 1)=0 from by omega,EF]; rw [EP]; rfl
        ·
         have hd:decide (o=0∧Gz out=false)=false:=decide_eq_false hn; simp (disch:=omega) only [hd,aT,aX,bD,aR,aY,if_pos,if_neg,ak,aC,aD,aF,aG,aJ,aI,aH,decide_eq_true_eq,beq_iff_eq,bne_iff_ne,ne_eq,Bool.and_eq_true,Bool.or_eq_true,Bool.not_eq_true',Bool.not_eq_true,decide_eq_false_iff_not,beq_eq_false_iff_ne,bne_eq_false_iff_eq,Int.toNat_add,Int.toNat_natCast,Int.reduceToNat,Int.zero_add,Int.add_zero,Nat.add_zero,Nat.zero_add,Bool.true_and,Bool.and_true,Bool.false_and,Bool.and_false,Bool.true_or,Bool.or_true,Bool.false_or,Bool.or_false,Bool.not_true,Bool.not_false,Bool.false_eq_true,Bool.true_eq_false,reduceCtorEq,not_true_eq_false,not_false_eq_true,if_true,if_false,decide_true,decide_false]; rw [rA hs k (p + 1) nx o out (by omega) (by omega) hnx (fun h=>by omega) (by omega) (by omega),show nx - (p + 1)=0 from by omega]
       ·
        simp (disch:=omega) only [Pb hs hi,aT,aX,bD,aR,aY,if_pos,if_neg,ak,aC,aD,aF,aG,aJ,aI,aH,decide_eq_true_eq,beq_iff_eq,bne_iff_ne,ne_eq,Bool.and_eq_true,Bool.or_eq_true,Bool.not_eq_true',Bool.not_eq_true,decide_eq_false_iff_not,beq_eq_false_iff_ne,bne_eq_false_iff_eq,Int.toNat_add,Int.toNat_natCast,Int.reduceToNat,Int.zero_add,Int.add_zero,Nat.add_zero,Nat.zero_add,Bool.true_and,Bool.and_true,Bool.false_and,Bool.and_false,Bool.true_or,Bool.or_true,Bool.false_or,Bool.or_false,Bool.not_true,Bool.not_false,Bool.false_eq_true,Bool.true_eq_false,reduceCtorEq,not_true_eq_false,not_false_eq_true,if_true,if_false,decide_true,decide_false]; rw [hh,scan,if_neg hbl,if_neg ZI,if_neg h10]; by_cases he:(mD (s.getD p 0 :: s.drop (p + 1))).2.2.2=0
        ·
         obtain ⟨n1,n2,n3,n4⟩:=Ja he; rw [o7] at n2; rw [if_pos he]
         have hbd:Bd s (p + (mD (s.getD p 0 :: s.drop (p + 1))).2.2.1):=by
          right; right; refine ⟨by omega,?_⟩; rw [←hh,List.getD_eq_getElem?_getD,List.getElem?_drop] at n3; rw [List.getD_eq_getElem?_getD,←hh]; rw [←hh] at n1; rw [show p + (mD (s.drop p)).2.2.1 - 1=p + ((mD (s.drop p)).2.2.1 - 1) from by omega]; exact n3
         have h5:=OU (s.getD p 0) (s.drop (p + 1)); generalize mD (s.getD p 0 :: s.drop (p + 1))=t at he n1 n2 hbd h5 ⊢; have happ:app out [(⟨t.1,t.2.1,(p:Int)⟩:aA)]=some (out ++ [⟨t.1,t.2.1,(p:Int)⟩]):=aR (by simp [uU]; omega); have aiS:W_ t.2.1 o≤o + 1:=by unfold W_; (repeat' split) <;> omega
         have ek:((t.1:Int) == 5)=false:=beq_eq_false_iff_ne.2 h5; simp only [ltk,he,if_true]; simp (disch:=omega) only [aT,aX,bD,aR,aY,if_pos,if_neg,ak,aC,aD,aF,aG,aJ,aI,aH,decide_eq_true_eq,beq_iff_eq,bne_iff_ne,ne_eq,Bool.and_eq_true,Bool.or_eq_true,Bool.not_eq_true',Bool.not_eq_true,decide_eq_false_iff_not,beq_eq_false_iff_ne,bne_eq_false_iff_eq,Int.toNat_add,Int.toNat_natCast,Int.reduceToNat,Int.zero_add,Int.add_zero,Nat.add_zero,Nat.zero_add,Bool.true_and,Bool.and_true,Bool.false_and,Bool.and_false,Bool.true_or,Bool.or_true,Bool.false_or,Bool.or_false,Bool.not_true,Bool.not_false,Bool.false_eq_true,Bool.true_eq_false,reduceCtorEq,not_true_eq_false,not_false_eq_true,if_true,if_false,decide_true,decide_false]; by_cases hk:t.1=4
         ·
          simp (disch:=omega) only [hk,Te _ _ (by omega:o < 4611686018427387904),aT,aX,bD,aR,aY,if_pos,if_neg,ak,aC,aD,aF,aG,aJ,aI,aH,decide_eq_true_eq,beq_iff_eq,bne_iff_ne,ne_eq,Bool.and_eq_true,Bool.or_eq_true,Bool.not_eq_true',Bool.not_eq_true,decide_eq_false_iff_not,beq_eq_false_iff_ne,bne_eq_false_iff_eq,Int.toNat_add,Int.toNat_natCast,Int.reduceToNat,Int.zero_add,Int.add_zero,Nat.add_zero,Nat.zero_add,Bool.true_and,Bool.and_true,Bool.false_and,Bool.and_false,Bool.true_or,Bool.or_true,Bool.false_or,Bool.or_false,Bool.not_true,Bool.not_false,Bool.false_eq_true,Bool.true_eq_false,reduceCtorEq,not_true_eq_false,not_false_eq_true,if_true,if_false,decide_true,decide_false]; rw [hk] at happ; simp (disch:=omega) only [happ,aT,aX,bD,aR,aY,if_pos,if_neg,ak,aC,aD,aF,aG,aJ,aI,aH,decide_eq_true_eq,beq_iff_eq,bne_iff_ne,ne_eq,Bool.and_eq_true,Bool.or_eq_true,Bool.not_eq_true',Bool.not_eq_true,decide_eq_false_iff_not,beq_eq_false_iff_ne,bne_eq_false_iff_eq,Int.toNat_add,Int.toNat_natCast,Int.reduceToNat,Int.zero_add,Int.add_zero,Nat.add_zero,Nat.zero_add,Bool.true_and,Bool.and_true,Bool.false_and,Bool.and_false,Bool.true_or,Bool.or_true,Bool.false_or,Bool.or_false,Bool.not_true,Bool.not_false,Bool.false_eq_true,Bool.true_eq_false,reduceCtorEq,not_true_eq_false,not_false_eq_true,if_true,if_false,decide_true,decide_false]; rw [rA hs k (p + 1) _ (W_ t.2.1 o) _ (by omega) (by omega) (by omega) (fun _=>hbd) (by simp; omega) (by omega),EF,EP]; rw [show p + t.2.2.1 - (p + 1)=t.2.2.1 - 1 from by omega]
          rfl
         ·
          simp (disch:=omega) only [hk,happ,aT,aX,bD,aR,aY,if_pos,if_neg,ak,aC,aD,aF,aG,aJ,aI,aH,decide_eq_true_eq,beq_iff_eq,bne_iff_ne,ne_eq,Bool.and_eq_true,Bool.or_eq_true,Bool.not_eq_true',Bool.not_eq_true,decide_eq_false_iff_not,beq_eq_false_iff_ne,bne_eq_false_iff_eq,Int.toNat_add,Int.toNat_natCast,Int.reduceToNat,Int.zero_add,Int.add_zero,Nat.add_zero,Nat.zero_add,Bool.true_and,Bool.and_true,Bool.false_and,Bool.and_false,Bool.true_or,Bool.or_true,Bool.false_or,Bool.or_false,Bool.not_true,Bool.not_false,Bool.false_eq_true,Bool.true_eq_false,reduceCtorEq,not_true_eq_false,not_false_eq_true,if_true,if_false,decide_true,decide_false]; rw [rA hs k (p + 1) _ o _ (by omega) (by omega) (by omega) (fun _=>hbd) (by simp; omega) (by omega),EF,EP]; rw [show p + t.2.2.1 - (p + 1)=t.2.2.1 - 1 from by omega]; rw [ek]
        ·
         rw [if_neg he]; simp only [ltk,he,if_false]; simp (disch:=omega) only [he,aT,aX,bD,aR,aY,if_pos,if_neg,ak,aC,aD,aF,aG,aJ,aI,aH,decide_eq_true_eq,beq_iff_eq,bne_iff_ne,ne_eq,Bool.and_eq_true,Bool.or_eq_true,Bool.not_eq_true',Bool.not_eq_true,decide_eq_false_iff_not,beq_eq_false_iff_ne,bne_eq_false_iff_eq,Int.toNat_add,Int.toNat_natCast,Int.reduceToNat,Int.zero_add,Int.add_zero,Nat.add_zero,Nat.zero_add,Bool.true_and,Bool.and_true,Bool.false_and,Bool.and_false,Bool.true_or,Bool.or_true,Bool.false_or,Bool.or_false,Bool.not_true,Bool.not_false,Bool.false_eq_true,Bool.true_eq_false,reduceCtorEq,not_true_eq_false,not_false_eq_true,if_true,if_false,decide_true,decide_false]; rfl
    ·
     
     obtain ⟨g1,_⟩:=Uz hi hc; have e1:(((dec s p).1:Int) == 32 || ((dec s p).1:Int) == 9)=false:=by simp only [Bool.or_eq_false_iff,beq_eq_false_iff_ne]; omega
     have he:(mD (s.getD p 0 :: s.drop (p + 1))).2.2.2≠0:=fun he=>by have:=(Ja he).2.2.2; omega
     simp (disch:=omega) only [Tf,e1,Pb hs hi,aT,aX,bD,aR,aY,if_pos,if_neg,ak,aC,aD,aF,aG,aJ,aI,aH,decide_eq_true_eq,beq_iff_eq,bne_iff_ne,ne_eq,Bool.and_eq_true,Bool.or_eq_true,Bool.not_eq_true',Bool.not_eq_true,decide_eq_false_iff_not,beq_eq_false_iff_ne,bne_eq_false_iff_eq,Int.toNat_add,Int.toNat_natCast,Int.reduceToNat,Int.zero_add,Int.add_zero,Nat.add_zero,Nat.zero_add,Bool.true_and,Bool.and_true,Bool.false_and,Bool.and_false,Bool.true_or,Bool.or_true,Bool.false_or,Bool.or_false,Bool.not_true,Bool.not_false,Bool.false_eq_true,Bool.true_eq_false,reduceCtorEq,not_true_eq_false,not_false_eq_true,if_true,if_false,decide_true,decide_false]; rw [hh,scan,if_neg (by omega),if_neg (by omega),if_neg (by omega),if_neg he]; simp only [ltk,he,if_false]; simp (disch:=omega) only [he,aT,aX,bD,aR,aY,if_pos,if_neg,ak,aC,aD,aF,aG,aJ,aI,aH,decide_eq_true_eq,beq_iff_eq,bne_iff_ne,ne_eq,Bool.and_eq_true,Bool.or_eq_true,Bool.not_eq_true',Bool.not_eq_true,decide_eq_false_iff_not,beq_eq_false_iff_ne,bne_eq_false_iff_eq,Int.toNat_add,Int.toNat_natCast,Int.reduceToNat,Int.zero_add,Int.add_zero,Nat.add_zero,Nat.zero_add,Bool.true_and,Bool.and_true,Bool.false_and,Bool.and_false,Bool.true_or,Bool.or_true,Bool.false_or,Bool.or_false,Bool.not_true,Bool.not_false,Bool.false_eq_true,Bool.true_eq_false,reduceCtorEq,not_true_eq_false,not_false_eq_true,if_true,if_false,decide_true,decide_false]; rfl
  ·
   have e:p=s.length:=by omega
   subst e; rw [if_neg (by simp)]; rw [List.drop_eq_nil_of_le (Nat.le_refl _)]; cases hz:nx - s.length <;> simp [scan,fin]
end Go.Ft
namespace Go.Ft
open Go
attribute [local congr] gK
theorem Mr {s:Str} (hs:s.length≤65536):lT s=some (fin [] (scan 0 0 0 false s)):=by
 unfold lT; rw [if_neg (by simp; omega)]; have:=rA (s:=s) (by omega) BIG 0 0 0 [] (by simp only [BIG]; omega) (by omega) (by omega) (fun h=>by omega) (by simp) (by omega); exact this
def NK :Bool→Str→Nat
 | _,[]=>0
 | cm,c :: r=>if c.toNat≠10∧(cm=true∨c.toNat=32∨c.toNat=9∨c.toNat=35) then NK (cm || c.toNat == 35) r + 1 else 0
theorem Uq :∀ (cm:Bool) (l:Str),NK cm l≤l.length
 | _,[]=>Nat.le_refl 0
 | cm,c :: r=>by
  rw [NK]; split
  · have:=Uq (cm || c.toNat == 35) r; simp only [List.length_cons]; omega
  · exact Nat.zero_le _
theorem MJ {s:Str} (hs:s.length≤2147483648):∀ (k i:Nat) (cm:Bool),s.length < k + i→i≤s.length→
  mH s k (i:Int) cm=some ((i + NK cm (s.drop i):Nat):Int)
 | 0,i,cm,h,h'=>by omega
 | k + 1,i,cm,h,h'=>by
  rw [mH]; by_cases hi:i < s.length
  ·
   have hh:=getD_drop hi
   have hx:idx s (i:Int)=some (s.getD i 0):=by
    rw [Jv hi,List.getD_eq_getElem?_getD,List.getElem?_eq_getElem hi]; rfl
   rw [hh,NK]; have hc:(decide ((i:Int) < (s.length:Int)))=true:=by simp; omega
   simp only [hc,if_true,hx,ak]; generalize s.getD i 0=c; by_cases h10:c.toNat=10
   ·
    have e:((c.toNat:Int) != 10)=false:=by simp; omega
    simp [e,h10]
   ·
    have e:((c.toNat:Int) != 10)=true:=by simp; omega
    have e35:((c.toNat:Int) == 35)=(c.toNat == 35):=by
     by_cases h:c.toNat=35
     · simp [h]
     ·
      have h2:¬ (c.toNat:Int)=35:=by omega
      rw [beq_eq_false_iff_ne.2 h,beq_eq_false_iff_ne.2 h2]
    have go:∀ cm',mH s k (bL ((i:Int) + 1)) cm'=some ((i + (NK cm' (s.drop (i + 1)) + 1):Nat):Int):=by
     intro cm'; rw [aT (by omega) (by omega)]; have:=MJ hs k (i + 1) cm' (by omega) (by omega); rw [show (i:Int) + 1=((i + 1:Nat):Int) from by omega,this]; congr 2; omega
    simp only [e,if_true,e35,h10,ne_eq,not_false_eq_true,true_and]; cases cm with
    | true=>simp [go]
    | false=>
     by_cases h32:c.toNat=32
     ·
      have h2:(c.toNat == 35)=false:=by simp [h32]
      simp [h32,go]
     ·
      have ai5:((c.toNat:Int) == 32)=false:=by simp; omega
      by_cases h9:c.toNat=9
      · simp [h9,go]
      ·
       have h9':((c.toNat:Int) == 9)=false:=by simp; omega
       simp only [ai5,h9',Bool.false_eq_true,if_false,ak,h32,h9,false_or,Bool.false_or]; cases hb:(c.toNat == 35) with
       | true=>simp [go]; simp at hb; simp [hb]
       | false=>simp at hb; simp [hb]
  ·
   have hc:(decide ((i:Int) < (s.length:Int)))=false:=by simp; omega
   rw [List.drop_eq_nil_of_le (by omega)]; simp only [hc,Bool.false_eq_true,if_false,ak,NK,Nat.add_zero]
theorem MI {s:Str} (hs:s.length≤65536) {i:Nat} (h:i≤s.length):nJ s (i:Int)=some ((i + NK false (s.drop i):Nat):Int):=
 MJ (by omega) BIG i false (by simp only [BIG]; omega) h
theorem Zz (l:Str):NK true l=span qC l:=by
 induction l with
 | nil=>rfl
 | cons c r ih=>
  rw [NK,kg]; by_cases h:c.toNat=10
  · simp [h,qC]
  ·
   have:¬ (c.toNat:Int)=10:=by omega
   simp [h,qC,this,ih]
theorem MK :∀ (l:Str) (cm:Bool),NK false (l.drop (NK cm l))=0
 | [],cm=>by cases cm <;> rfl
 | c :: r,cm=>by
  rw [NK]; split
  · rw [List.drop_succ_cons]; exact MK r _
  ·
   rename_i h; rw [List.drop_zero,NK,if_neg]; intro h2; apply h; exact ⟨h2.1,by cases h2.2 with | inl h=>cases h | inr h=>exact Or.inr h⟩
theorem LG :∀ (l:Str) (p o:Nat) (nl:Bool),scan 0 p o nl l=scan 0 (p + NK false l) o nl (l.drop (NK false l))
 | [],p,o,nl=>rfl
 | c :: r,p,o,nl=>by
  rw [NK]; split
  ·
   rename_i h; by_cases ZI:c.toNat=35
   ·
    rw [scan,if_neg (by omega),if_pos ZI,List.drop_succ_cons]; simp only [ZI,beq_self_eq_true,Bool.or_true]; rw [Zz]; have:=Fj (span qC r) 0 (p + 1) o nl r (yU _ _); rw [Nat.zero_add] at this; rw [this]; rw [show p + 1 + span qC r=p + (span qC r + 1) from by omega]
   ·
    have hb:(c.toNat == 35)=false:=by simp [ZI]
    rw [scan,if_pos (by obtain ⟨_,h⟩:=h; rcases h with h | h | h | h <;> simp_all),List.drop_succ_cons,hb]; rw [LG r]; simp only [Bool.or_false]; rw [show p + 1 + NK false r=p + (NK false r + 1) from by omega]
  · rfl
theorem NY (out:List aA) (o:Nat) (h:out.length < 4611686018427387904):
  (if ((o:Int) == 0)=true then if ((out.length:Int) == 0)=true then some true else ay (idx out (bL ((out.length:Int) - 1))) fun e1=>some (e1.kind != 5) else some false)=some (decide (o=0∧Gz out=false)):=by
 by_cases ho:o=0
 ·
  subst ho; by_cases he:out=[]
  · subst he; simp [Gz]
  ·
   have hl:0 < out.length:=List.length_pos_iff.2 he; have hl2:¬ ((out.length:Int)=0):=by omega
   have h1:=Pg out he; rw [dif_pos h] at h1; rw [h1]; simp [hl2,Gz,List.getLast?_eq_some_getLast he]; cases hk:(out.getLast he).kind == 5 <;> simp_all
 ·
  have:¬ (o:Int)=0:=by omega
  simp [ho,this]
theorem LJ {s:Str} (hs:s.length≤65536):∀ (k p o:Nat) (out:List aA),s.length < k + p→p≤s.length→NK false (s.drop p)=0→out.length≤p→o≤p→
  jS s k out (o:Int) (p:Int)=some (fin out (scan 0 p o (Gz out) (s.drop p)))
 | 0,p,o,out,h,h',_,_,_=>by omega
 | k + 1,p,o,out,h,hp,hg,hout,ho=>by
  rw [jS]; by_cases hi:p < s.length
  ·
   have hh:=getD_drop hi
   have hx:idx s (p:Int)=some (s.getD p 0):=by
    rw [Jv hi,List.getD_eq_getElem?_getD,List.getElem?_eq_getElem hi]; rfl
   have hc:(decide ((p:Int) < (s.length:Int)))=true:=by simp; omega
   have step:∀ (q:Nat) (o':Nat) (out':List aA),p < q→q≤s.length→out'.length≤q→o'≤q→
     ay (nJ s (q:Int)) (fun at3=>jS s k out' (o':Int) at3)=some (fin out' (scan 0 q o' (Gz out') (s.drop q))):=by
    intro q o' out' h1 h2 h3 h4; have hle:=Uq false (s.drop q); rw [o7] at hle; rw [MI hs h2,ak]; rw [LJ hs k (q + NK false (s.drop q)) o' out' (by omega) (by omega) (by rw [←List.drop_drop]; exact MK _ _) (by omega) (by omega)]; rw [LG (s.drop q),List.drop_drop]
   rw [hh,NK] at hg; simp only [hc,if_true,hx,ak]; by_cases h10:(s.getD p 0).toNat=10
   ·
    have e:(((s.getD p 0).toNat:Int) != 10)=false:=bne_eq_false_iff_eq.2 (by omega); have e5:((5:Int) != 5)=false:=rfl
    have eop:pO (o:Int) (⟨5,[],(p:Int)⟩:aA)=some (o:Int):=by
     rw [O7 _ _ (by omega)]; simp
    simp only [e,e5,Bool.false_eq_true,if_false,eop,ak]; rw [NY out o (by omega),ak]
    conv=>rhs; rw [hh,scan,if_neg (by omega),if_neg (by omega),if_pos h10]
    have w1:bL ((p:Int) + 1)=((p + 1:Nat):Int):=by rw [aT (by omega) (by omega)]; omega
    by_cases hn:o=0∧Gz out=false
    ·
     have happ:app out [(⟨5,[],(p:Int)⟩:aA)]=some (out ++ [⟨5,[],(p:Int)⟩]):=aR (by simp [uU]; omega); rw [decide_eq_true hn,if_pos rfl,happ,ak,w1]; rw [step (p + 1) o _ (by omega) (by omega) (by simp; omega) (by omega),EF,if_pos hn,EP]; rfl
    ·
     rw [decide_eq_false hn,if_neg Bool.false_ne_true,w1]; rw [step (p + 1) o _ (by omega) (by omega) (by omega) (by omega),if_neg hn]
   ·
    have e:(((s.getD p 0).toNat:Int) != 10)=true:=bne_iff_ne.2 (by omega); simp only [e,if_true]
    have hbl:¬ ((s.getD p 0).toNat=32∨(s.getD p 0).toNat=9):=fun h=>by
     rw [if_pos ⟨h10,by omega⟩] at hg; omega
    have ZI:¬ (s.getD p 0).toNat=35:=fun h=>by
     rw [if_pos ⟨h10,by omega⟩] at hg; omega
    rw [WK (by omega) hi,hh,scan,if_neg hbl,if_neg ZI,if_neg h10]; by_cases he:(mD (s.getD p 0 :: s.drop (p + 1))).2.2.2=0
    ·
     obtain ⟨n1,n2,n3,n4⟩:=Ja he; have h5:=OU (s.getD p 0) (s.drop (p + 1)); rw [o7] at n2; rw [if_pos he]; generalize mD (s.getD p 0 :: s.drop (p + 1))=t at he n1 n2 h5 ⊢; have happ:app out [(⟨t.1,t.2.1,(p:Int)⟩:aA)]=some (out ++ [⟨t.1,t.2.1,(p:Int)⟩]):=aR (by simp [uU]; omega); have aiS:W_ t.2.1 o≤o + 1:=by unfold W_; (repeat' split) <;> omega
     have ek:((t.1:Int) == 5)=false:=beq_eq_false_iff_ne.2 h5; have ek2:((t.1:Int) != 5)=true:=bne_iff_ne.2 h5; have w1:bL ((p:Int) + (t.2.2.1:Int))=((p + t.2.2.1:Nat):Int):=by rw [aT (by omega) (by omega)]; omega
     simp only [rtk,he,if_true,aD,ek2,ak,happ,O7 _ _ (by omega:o < 4611686018427387904),w1]; have e00:((0:Int) != 0)=false:=rfl; simp only [e00,Bool.false_eq_true,if_false]; rw [step (p + t.2.2.1) _ _ (by omega) (by omega) (by simp; omega) (by split <;> omega),EF,EP,ek]; have hsk:=Fj (t.2.2.1 - 1) 0 (p + 1) (if t.1=4 then W_ t.2.1 o else o) false (s.drop (p + 1)) (by rw [o7]; omega); rw [Nat.zero_add] at hsk; rw [hsk,List.drop_drop,show p + 1 + (t.2.2.1 - 1)=p + t.2.2.1 from by omega]
    ·
     rw [if_neg he]; have e00:((mD (s.getD p 0 :: s.drop (p + 1))).2.2.2 != 0)=true:=bne_iff_ne.2 he; simp only [rtk,he,if_false,aD,e00,if_true]; rfl
  ·
   have e:p=s.length:=by omega
   subst e; rw [List.drop_eq_nil_of_le (Nat.le_refl _)]; simp [scan,fin]
theorem TU {s:Str} (hs:s.length≤65536):qX s=some (fin [] (scan 0 0 0 false s)):=by
 unfold qX; rw [if_neg (by simp; omega),show (0:Int)=((0:Nat):Int) from rfl,MI hs (Nat.zero_le _),ak]; have hle:=Uq false (s.drop 0); rw [o7] at hle; rw [LJ hs BIG _ 0 [] (by simp only [BIG]; omega) (by omega) (by rw [←List.drop_drop]; exact MK _ _) (by simp) (by omega)]; rw [←List.drop_drop,List.drop_zero]; have:=LG s 0 0 false; rw [this]; rfl
theorem Ry (s:Str):qX s=lT s:=by
 rcases Nat.lt_or_ge 65536 s.length with h | h
 · unfold qX lT; rw [if_pos (by simp; omega),if_pos (by simp; omega)]
 · rw [Mr h,TU h]
theorem LD :∀ (l:Str) (k p o:Nat) (nl:Bool),(scan k p o nl l).1.length≤l.length
 | [],k,p,o,nl=>by cases k <;> simp [scan]
 | c :: r,k + 1,p,o,nl=>by rw [scan]; have:=LD r k (p + 1) o nl; simp only [List.length_cons]; omega
 | c :: r,0,p,o,nl=>by
  have h1:=LD r; rw [scan]
  repeat' split
  all_goals simp only [List.length_cons,List.length_nil]
  all_goals first | omega | (have:=h1 0 (p + 1) o nl; omega) | (have:=h1 0 (p + 1) o true; omega) | (have:=h1 (span qC r) (p + 1) o nl; omega) | skip
  all_goals (have:=h1 ((mD (c :: r)).2.2.1 - 1) (p + 1) (if (mD (c :: r)).1=4 then W_ (mD (c :: r)).2.1 o else o) false; simp_all)
theorem aco (l:Str):(fin [] (scan 0 0 0 false l)).1.length≤l.length:=by
 have:=LD l 0 0 0 false; unfold fin; split <;> simp_all
end Go.Ft
namespace Go.Ft
open Go
attribute [local congr] gK
theorem TP :∀ (r:Str) (k:Nat) (b:Str) (n:Nat),(txt k b n r).1.length≤4096
 | [],k,b,n=>by cases k <;> simp [txt]
 | c :: r,k + 1,b,n=>by rw [txt]; exact TP r k b n
 | c :: r,0,b,n=>by
  rw [txt]; split
  ·
   split
   · simp
   · simp only; omega
  ·
   split
   · exact TP r _ _ _
   · simp
theorem abE :∀ l:Str,(mD l).2.1.length≤l.length + 4096
 | []=>by simp [mD]
 | c :: r=>by
  have:=TP r 0 [] 1; unfold mD; simp only
  repeat' split
  all_goals simp only [List.length_nil,List.length_take]
  all_goals omega
theorem Jh :∀ (l:Str) (k p o:Nat) (nl:Bool),∀ t∈(scan k p o nl l).1,t.text.length≤l.length + 4096
 | [],k,p,o,nl,t,ht=>by cases k <;> simp [scan] at ht
 | c :: r,k + 1,p,o,nl,t,ht=>by rw [scan] at ht; have:=Jh r k (p + 1) o nl t ht; simp only [List.length_cons]; omega
 | c :: r,0,p,o,nl,t,ht=>by
  have h1:=Jh r; have h2:=abE (c :: r); simp only [List.length_cons] at h2 ⊢; rw [scan] at ht; split at ht
  · have:=h1 _ _ _ _ t ht; omega
  ·
   split at ht
   · have:=h1 _ _ _ _ t ht; omega
   ·
    split at ht
    ·
     split at ht
     ·
      simp only [List.mem_cons] at ht; rcases ht with rfl | ht
      · simp
      · have:=h1 _ _ _ _ t ht; omega
     · have:=h1 _ _ _ _ t ht; omega
    ·
     split at ht
     ·
      simp only [List.mem_cons] at ht; rcases ht with rfl | ht
      · exact h2
      · have:=h1 _ _ _ _ t ht; omega
     · simp at ht
theorem toks (s:Str):∃ ts a e,lT s=some (ts,a,e)∧qX s=some (ts,a,e)∧zu ts:=by
 rw [Ry]; rcases Nat.lt_or_ge 65536 s.length with h | h
 ·
  unfold lT; rw [if_pos (by simp; omega)]; exact ⟨_,_,_,rfl,rfl,by simp [zu]⟩
 ·
  rw [Mr h]; have hl:=aco s; refine ⟨(fin [] (scan 0 0 0 false s)).1,(fin [] (scan 0 0 0 false s)).2.1,(fin [] (scan 0 0 0 false s)).2.2,rfl,rfl,by omega,fun t ht=>?_⟩
  have hm:t∈(scan 0 0 0 false s).1:=by
   unfold fin at ht; split at ht
   · simpa using ht
   · simp at ht
  have:=Jh s 0 0 0 false t hm; omega
def zeroE :ah:=ah.mk 0 ([]:Str) (av.mk 0 false 0 ([]:Str) [] []) [] []
theorem abF {ts:List aA} (h:zu ts):∃ (e:ah) (j:Nat) (c:Int),xM ts=some (e,(j:Int),c)∧Ew ts=some (e,(j:Int),c)∧j≤ts.length∧(c=0→xval e=0∧e.bulk≤137438953472)∧(c≠0→e=zeroE):=by
 have hN:=h.1; unfold xM Ew Bo; rcases Z_ h with ⟨e,j,g1,g2,gb,gP,gR⟩ | ⟨j,c,x,g1,g2,gc,gP,gR⟩
 ·
  have hbk:e.bulk≤137438953472:=by omega
  obtain ⟨v1,v2⟩:=PL (e:=e) (by omega); rw [gP,gR,fH,aD,aD]; simp only [FV,Bool.false_eq_true,if_false]; rw [v1,v2,ak]; by_cases hv:xval e=0
  ·
   rw [if_neg (by simpa using hv)]; exact ⟨e,j,0,rfl,rfl,g2,fun _=>⟨hv,hbk⟩,fun h=>absurd rfl h⟩
  ·
   rw [if_pos (by simpa using hv)]; exact ⟨zeroE,0,xval e,rfl,rfl,Nat.zero_le _,fun h=>absurd h hv,fun _=>rfl⟩
 ·
  rw [gP,gR,dV,aD,aD]; simp only [Mg gc,if_true]; exact ⟨zeroE,j,c,rfl,rfl,g2,fun h=>absurd h gc,fun _=>rfl⟩
theorem Zd (s:Str):∃ (e:ah) (a c:Int),vH s=some (e,a,c)∧Cn s=some (e,a,c)∧(c=0→xval e=0∧e.bulk≤137438953472):=by
 obtain ⟨ts,a,c,l1,l2,hts⟩:=toks s; unfold vH Cn; rw [l1,l2,aD,aD]; by_cases hc:c=0
 ·
  subst hc; simp only [FV,Bool.false_eq_true,if_false]; obtain ⟨e,j,c,t1,t2,hj,t3,t4⟩:=abF hts; rw [t1,t2,aD,aD]; by_cases hc:c=0
  ·
   subst hc; have e0:((0:Int) == 0)=true:=rfl; simp only [FV,e0,Bool.true_and,Bool.false_eq_true,if_false,if_true]; by_cases hlt:j < ts.length
   ·
    have e1:decide ((j:Int) < (ts.length:Int))=true:=decide_eq_true (by omega); have e2:((j:Int) == (ts.length:Int))=false:=by rw [beq_eq_false_iff_ne]; omega
    simp only [e1,e2,if_true,Bool.false_eq_true,if_false,m_ hlt,ak]; exact ⟨_,_,_,rfl,rfl,fun h=>by cases h⟩
   ·
    have e1:decide ((j:Int) < (ts.length:Int))=false:=decide_eq_false (by omega); have e2:((j:Int) == (ts.length:Int))=true:=by rw [beq_iff_eq]; omega
    simp only [e1,e2,if_true,Bool.false_eq_true,if_false]; exact ⟨e,0,0,rfl,rfl,t3⟩
  ·
   have e0:(c == 0)=false:=by simpa using hc
   simp only [Mg hc,e0,Bool.false_and,Bool.false_eq_true,if_false,if_true,yX]; by_cases hlt:j < ts.length
   ·
    have e1:decide ((j:Int) < (ts.length:Int))=true:=decide_eq_true (by omega); simp only [e1,if_true,m_ hlt,ak]; exact ⟨_,_,_,rfl,rfl,fun h=>absurd h hc⟩
   ·
    have e1:decide ((j:Int) < (ts.length:Int))=false:=decide_eq_false (by omega); simp only [e1,Bool.false_eq_true,if_false,ak]; exact ⟨_,_,_,rfl,rfl,fun h=>absurd h hc⟩
 ·
  simp only [Mg hc,if_true]; exact ⟨_,_,_,rfl,rfl,fun h=>absurd h hc⟩
end Go.Ft
namespace Go.Ft
open Go
attribute [local congr] gK
theorem ail {i:Nat} (h:i < 4611686018427387000):bL (bL ((i:Int) + 1) + 1)=((i + 2:Nat):Int):=by rw [mh (by omega)]; exact mh (i:=i + 1) (by omega)
theorem Qi {s:Str} (hs:s.length≤65536):∀ (n i k k':Nat),s.length + 2≤n + i→i≤s.length + 1→n < k→n < k'→
  ∃ a b:Nat,kR s k (i:Int)=some (a:Int)∧nZ s k' (i:Int)=some (b:Int)∧((a=b∧i < a∧a≤s.length)∨(a=s.length∧s.length < b∧b≤s.length + 3))
 | n,i,0,k',_,_,h,_=>by omega
 | n,i,k + 1,0,_,_,_,h=>by omega
 | 0,i,k + 1,k' + 1,h1,h2,_,_=>by omega
 | n + 1,i,k + 1,k' + 1,h1,h2,h3,h4=>by
  rw [kR,nZ]; by_cases hi:i < s.length
  ·
   have e1:decide ((i:Int) < (s.length:Int))=true:=decide_eq_true (by omega); simp only [e1,if_true,m_ hi,ak]; generalize s[i]=c; by_cases c92:c.toNat=92
   ·
    have e2:((c.toNat:Int) == 92)=true:=by rw [beq_iff_eq]; omega
    have e3:((c.toNat:Int) != 34)=true:=by rw [bne_iff_ne]; omega
    simp only [e2,e3,if_true]; rw [ail (by omega)]; obtain ⟨a,b,q1,q2,q3⟩:=Qi hs n (i + 2) k k' (by omega) (by omega) (by omega) (by omega); exact ⟨a,b,q1,q2,by omega⟩
   ·
    have e2:((c.toNat:Int) == 92)=false:=by rw [beq_eq_false_iff_ne]; omega
    by_cases c34:c.toNat=34
    ·
     have e3:((c.toNat:Int) == 34)=true:=by rw [beq_iff_eq]; omega
     have e4:((c.toNat:Int) != 34)=false:=by rw [bne_eq_false_iff_eq]; omega
     simp only [e2,e3,e4,if_true,Bool.false_eq_true,if_false]; exact ⟨i + 1,i + 1,by rw [mh (by omega)],by rw [mh (by omega)],.inl ⟨rfl,by omega,by omega⟩⟩
    ·
     have e3:((c.toNat:Int) == 34)=false:=by rw [beq_eq_false_iff_ne]; omega
     have e4:((c.toNat:Int) != 34)=true:=by rw [bne_iff_ne]; omega
     simp only [e2,e3,e4,if_true,Bool.false_eq_true,if_false]; rw [mh (by omega)]; obtain ⟨a,b,q1,q2,q3⟩:=Qi hs n (i + 1) k k' (by omega) (by omega) (by omega) (by omega); exact ⟨a,b,q1,q2,by omega⟩
  ·
   have e1:decide ((i:Int) < (s.length:Int))=false:=decide_eq_false (by omega); simp only [e1,Bool.false_eq_true,if_false,ak]; exact ⟨s.length,i + 1,rfl,by rw [mh (by omega)],.inr ⟨rfl,by omega,by omega⟩⟩
theorem JK {s:Str} (hs:s.length≤65536):∀ (n i k k':Nat) (o:Int),s.length + 1≤n + i→n < k→n < k'→i≤s.length + 4→
  ∃ r:Int,fK s k (i:Int) o=some r∧iI s k' (i:Int) o=some r∧(r=-1∨∃ j:Nat,r=j∧i≤j∧j < s.length)
 | n,i,0,k',o,_,h,_,_=>by omega
 | n,i,k + 1,0,o,_,_,h,_=>by omega
 | n,i,k + 1,k' + 1,o,h1,h3,h4,h5=>by
  rw [fK,iI]; by_cases hi:i < s.length
  ·
   obtain ⟨n,rfl⟩:∃ m,n=m + 1:=⟨n - 1,by omega⟩; have e1:decide ((i:Int) < (s.length:Int))=true:=decide_eq_true (by omega); simp only [e1,if_true,m_ hi,ak]; generalize s[i]=c; have w1:bL ((i:Int) + 1)=((i + 1:Nat):Int):=mh (by omega)
   have next:∀ o:Int,∃ r:Int,fK s k (bL ((i:Int) + 1)) o=some r∧iI s k' (bL ((i:Int) + 1)) o=some r∧(r=-1∨∃ j:Nat,r=j∧i≤j∧j < s.length):=fun o=>by
    rw [w1]; obtain ⟨r,q1,q2,q3⟩:=JK hs n (i + 1) k k' o (by omega) (by omega) (by omega) (by omega); refine ⟨r,q1,q2,?_⟩; rcases q3 with q3 | ⟨j,q3,q4,q5⟩
    · exact .inl q3
    · exact .inr ⟨j,q3,by omega,q5⟩
   by_cases c34:((c.toNat:Int) == 34)=true
   ·
    simp only [c34,if_true,wZ,Dg]; rw [w1]; have hB:=jL; obtain ⟨a,b,q1,q2,q3⟩:=Qi hs (s.length + 2) (i + 1) BIG BIG (by omega) (by omega) (by omega) (by omega); rw [q1,q2,ak,ak]; rcases q3 with ⟨q3,q4,q5⟩ | ⟨q3,q4,q5⟩
    ·
     subst q3; obtain ⟨r,p1,p2,p3⟩:=JK hs n a k k' o (by omega) (by omega) (by omega) (by omega); refine ⟨r,p1,p2,?_⟩; rcases p3 with p3 | ⟨j,p3,p4,p5⟩
     · exact .inl p3
     · exact .inr ⟨j,p3,by omega,p5⟩
    ·
     obtain ⟨k,rfl⟩:∃ q,k=q + 1:=⟨k - 1,by omega⟩; obtain ⟨k',rfl⟩:∃ q,k'=q + 1:=⟨k' - 1,by omega⟩; rw [fK,iI,if_neg (by simp; omega),if_neg (by simp; omega)]; exact ⟨-1,rfl,rfl,.inl rfl⟩
   ·
    have c34:((c.toNat:Int) == 34)=false:=by simpa using c34
    simp only [c34,Bool.false_eq_true,if_false]; by_cases acA:((c.toNat:Int) == 123)=true
    · simp only [acA,if_true]; exact next _
    ·
     have acA:((c.toNat:Int) == 123)=false:=by simpa using acA
     simp only [acA,Bool.false_eq_true,if_false]; by_cases acz:((c.toNat:Int) == 125)=true
     ·
      simp only [acz,if_true]; by_cases ho:(o == 0)=true
      ·
       simp only [ho,if_true]; exact ⟨i,rfl,rfl,.inr ⟨i,rfl,Nat.le_refl _,hi⟩⟩
      ·
       have ho:(o == 0)=false:=by simpa using ho
       simp only [ho,Bool.false_eq_true,if_false]; exact next _
     ·
      have acz:((c.toNat:Int) == 125)=false:=by simpa using acz
      simp only [acz,Bool.false_eq_true,if_false]; exact next _
  ·
   have e1:decide ((i:Int) < (s.length:Int))=false:=decide_eq_false (by omega); simp only [e1,Bool.false_eq_true,if_false]; exact ⟨-1,rfl,rfl,.inl rfl⟩
theorem aah {s:Str} (hs:s.length≤65536) {i:Nat} (hi:i≤s.length + 4):∃ r:Int,vP s (i:Int)=some r∧Ba s (i:Int)=some r∧(r=-1∨∃ j:Nat,r=j∧i≤j∧j < s.length):=by
 have hB:=jL; exact JK hs (s.length + 1) i BIG BIG 0 (by omega) (by omega) (by omega) hi
end Go.Ft
namespace Go.Ft
open Go
attribute [local congr] gK
def Ru (t:Str):aK:=aK.mk t false zeroE
def Eu (ps:List aK) (t:Str):List aK:=if t=[] then ps else ps ++ [Ru t]
def VW (ps:List aK):Prop:=ps=[]∨∃ l p,ps=l ++ [p]∧p.EM=true
theorem SA {ps:List aK} {t:Str} (hp:ps.length≤1048576):jQ ps t=some (Eu ps t):=by
 have hL:uU=4294967296:=rfl; unfold jQ Eu; cases t with
 | nil=>rfl
 | cons c r=>
  rw [if_pos (decide_eq_true (by simp only [List.length_cons]; omega)),if_neg (by simp),aR (by simp; omega)]; rfl
theorem Yz {ps:List aK} {t:Str} (hc:VW ps) (hp:ps.length≤1048576) (ht:t.length≤1048576) (c:UInt8):z_ (Eu ps t) c=some (Eu ps (t ++ [c])):=by
 have hL:uU=4294967296:=rfl; unfold z_; cases t with
 | nil=>
  have hr:Eu ps []=ps:=rfl; rw [hr,if_pos (by omega)]
  have h1:(((ps.length:Int) == 0) || uq ps)=true:=by
   rcases hc with rfl | ⟨l,p,rfl,hpi⟩
   · rfl
   · simp [uq,hpi]
  rw [if_pos h1,aR (by simp; omega)]; rfl
 | cons d r=>
  have hr:Eu ps (d :: r)=ps ++ [Ru (d :: r)]:=rfl; have hr2:Eu ps ((d :: r) ++ [c])=ps ++ [Ru ((d :: r) ++ [c])]:=rfl; simp only [List.length_cons] at ht; rw [hr,hr2,if_pos (by simp; omega),if_neg (by simp [uq,Ru]; omega)]; have e1:uZ (ps ++ [Ru (d :: r)])=d :: r:=by simp [uZ,Ru]
  rw [e1,aR (by simp; omega),ak]; simp [A_,Ru]
theorem agC (s:Str) (i:Nat) (hi:i < s.length) (hs:s.length≤1048576) (a b:UInt8):strings_HasPrefix (s.drop i) [a,b]=some ((s[i] == a) && (s[i + 1]? == some b)):=by
 unfold strings_HasPrefix lF; rw [List.drop_eq_getElem_cons hi]; by_cases h1:i + 1 < s.length
 ·
  rw [List.drop_eq_getElem_cons h1,List.getElem?_eq_getElem h1]; rw [if_pos (decide_eq_true (by simp only [List.length_cons,List.length_nil]; omega))]
  have e:sl (s[i] :: s[i + 1] :: s.drop (i + 1 + 1)) 0 ((([a,b]:Str).length:Nat):Int)=some [s[i],s[i + 1]]:=by
   rw [bD (by omega) (by simp) (by simp only [List.length_cons,List.length_nil]; omega)]; rfl
  rw [e,ak]; generalize s[i]=x; generalize s[i + 1]=y; by_cases hx:x=a <;> by_cases hy:y=b <;> simp [hx,hy]
 ·
  rw [List.drop_of_length_le (by omega),List.getElem?_eq_none (by omega),if_neg (by simp)]; simp
theorem RU (ps:List aK) (t:Str):(Eu ps t).length≤ps.length + 1:=by unfold Eu; split <;> simp
def Da (p:aK):Prop:=(p.EM=true→p.text=[]∧xval p.expr=0∧p.expr.bulk≤137438953472)∧(p.EM=false→p.text≠[]∧p.expr=zeroE∧p.text.length≤4096)
theorem O3 {ps:List aK} {t:Str} (htl:t.length≤4096) (h:∀ p∈ps,Da p):∀ p∈Eu ps t,Da p:=by
 intro p hp; unfold Eu at hp; split at hp
 · exact h p hp
 ·
  rename_i ht; rcases List.mem_append.1 hp with hp | hp
  · exact h p hp
  ·
   cases List.mem_singleton.1 hp; exact ⟨fun h=>by simp [Ru] at h,fun _=>⟨ht,rfl,htl⟩⟩
theorem Gu {s:Str} (hs:s.length≤4096):∀ (n i k k':Nat) (ps:List aK) (t:Str),s.length + 1≤n + i→n < k→n < k'→i≤s.length→VW ps→ps.length≤2 * i→t.length≤i→(∀ p∈ps,Da p)→
  ∃ (l:List aK) (a c:Int),jE s k (i:Int) ps t=some (l,a,c)∧lM s k' (Eu ps t) (i:Int)=some (l,a,c)∧(∀ p∈l,Da p)∧l.length≤10000∧(c≠0→l=[])
 | n,i,0,k',ps,t,_,h,_,_,_,_,_,_=>by omega
 | n,i,k + 1,0,ps,t,_,_,h,_,_,_,_,_=>by omega
 | n,i,k + 1,k' + 1,ps,t,h1,h2,h3,hi,hcl,hps,ht,hg=>by
  have hL:uU=4294967296:=rfl; rw [jE,lM]; by_cases hlt:i < s.length
  ·
   obtain ⟨n,rfl⟩:∃ m,n=m + 1:=⟨n - 1,by omega⟩; have e1:decide ((i:Int) < (s.length:Int))=true:=decide_eq_true (by omega); have w1:bL ((i:Int) + 1)=((i + 1:Nat):Int):=mh (by omega); have w2:bL ((i:Int) + 2)=((i + 2:Nat):Int):=by rw [aT (by omega) (by omega)]; omega
   simp only [e1,if_true,m_ hlt,ak]; rw [tX (by omega),ak,agC s i hlt (by omega),ak]
   have RI:∀ (c:UInt8) (j:Nat),i < j→j≤i + 2→j≤s.length→∃ (l:List aK) (a c1:Int),(ay (app t [c]) fun RB=>jE s k (j:Int) ps RB)=some (l,a,c1)∧(ay (z_ (Eu ps t) c) fun l2=>lM s k' l2 (j:Int))=some (l,a,c1)∧(∀ p∈l,Da p)∧l.length≤10000∧(c1≠0→l=[]):=fun c j hj1 hj2 hj3=>by
    rw [aR (by simp; omega),ak,Yz hcl (by omega) (by omega) c,ak]; exact Gu hs n j k k' ps (t ++ [c]) (by omega) (by omega) (by omega) hj3 hcl (by omega) (by simp; omega) hg
   by_cases hA:s[i]=36∧s[i + 1]?=some 36
   ·
    obtain ⟨a1,a2⟩:=hA; obtain ⟨hlt1,a3⟩:=List.getElem?_eq_some_iff.1 a2
    have c1:(((s[i].toNat:Int) != 36) || (decide ((s.length:Int)≤bL ((i:Int) + 1))))=false:=by
     rw [w1,a1]; simp; omega
    rw [if_pos (by simp [a1,a2]),if_neg (by rw [c1]; simp),w1,w2]; simp only [m_ hlt1,ak,a3]; have e36:(((36:UInt8).toNat:Int) != 36)=false:=by decide
    have ajb:(((36:UInt8).toNat:Int) == 36)=true:=by decide
    simp only [e36,ajb,Bool.false_eq_true,if_false,if_true,ak]; exact RI 36 (i + 2) (by omega) (by omega) (by omega)
   ·
    have p36:((s[i] == 36) && (s[i + 1]? == some 36))=false:=by
     cases hx:((s[i] == 36) && (s[i + 1]? == some 36)) with
     | false=>rfl
     | true=>simp only [Bool.and_eq_true,beq_iff_eq] at hx; exact absurd hx hA
    rw [p36,if_neg (by simp),agC s i hlt (by omega),ak]; by_cases hB:s[i]=36∧s[i + 1]?=some 123
    ·
     obtain ⟨a1,a2⟩:=hB; obtain ⟨hlt1,a3⟩:=List.getElem?_eq_some_iff.1 a2
     have c1:(((s[i].toNat:Int) != 36) || (decide ((s.length:Int)≤bL ((i:Int) + 1))))=false:=by
      rw [w1,a1]; simp; omega
     rw [if_pos (by simp [a1,a2]),if_neg (by rw [c1]; simp),w1,w2]; simp only [m_ hlt1,ak,a3]; have e1:(((123:UInt8).toNat:Int) != 36)=true:=by decide
     have e2:(((123:UInt8).toNat:Int) == 36)=false:=by decide
     have e3:(((123:UInt8).toNat:Int) != 123)=false:=by decide
     simp only [e1,e2,e3,Bool.false_eq_true,if_false,if_true,ak]; obtain ⟨r,q1,q2,q3⟩:=aah (s:=s) (by omega) (i:=i + 2) (by omega); rw [q1,q2,ak,ak]; rcases q3 with q3 | ⟨j,q3,q4,q5⟩
     ·
      subst q3; exact ⟨[],(i:Int),4,rfl,rfl,by simp,by simp,fun _=>rfl⟩
     ·
      subst q3; have d0:decide ((j:Int) < 0)=false:=decide_eq_false (by omega); have hsl:sl s ((i + 2:Nat):Int) (j:Int)=some ((s.take j).drop (i + 2)):=by rw [bD (by omega) (by omega) (by omega)]; rfl
      simp only [d0,Bool.false_eq_true,if_false,hsl,ak]; obtain ⟨e,a,c,p1,p2,p3⟩:=Zd ((s.take j).drop (i + 2)); rw [p1,p2,aD,aD]; by_cases hc:c=0
      ·
       subst hc; have hr:=RU ps t; have wj:bL ((j:Int) + 1)=((j + 1:Nat):Int):=mh (by omega); simp only [FV,Bool.false_eq_true,if_false]; rw [SA (by omega),ak,aR (by simp; omega),ak,ak,wj]; have hrp:Eu (Eu ps t ++ [aK.mk ([]:Str) true e]) []=Eu ps t ++ [aK.mk ([]:Str) true e]:=rfl
       have:=Gu hs n (j + 1) k k' (Eu ps t ++ [aK.mk ([]:Str) true e]) [] (by omega) (by omega) (by omega) (by omega) (.inr ⟨_,_,rfl,rfl⟩) (by simp; omega) (by simp) (by
        intro p hp; rcases List.mem_append.1 hp with hp | hp
        · exact O3 (by omega) hg p hp
        ·
         cases List.mem_singleton.1 hp
         exact ⟨fun _=>⟨rfl,p3 rfl⟩,fun h=>by cases h⟩)
       rw [hrp] at this; exact this
      ·
       simp only [Mg hc,if_true]; exact ⟨[],_,c,rfl,rfl,by simp,by simp,fun _=>rfl⟩
    ·
     have aiw:((s[i] == 36) && (s[i + 1]? == some 123))=false:=by
      cases hx:((s[i] == 36) && (s[i + 1]? == some 123)) with
      | false=>rfl
      | true=>simp only [Bool.and_eq_true,beq_iff_eq] at hx; exact absurd hx hB
     have hb1:(if (((s[i].toNat:Int) != 36) || (decide ((s.length:Int)≤bL ((i:Int) + 1))))=true then some true else ay (idx s (bL ((i:Int) + 1))) fun x2=>if ((x2.toNat:Int) != 36)=true then ay (idx s (bL ((i:Int) + 1))) fun x3=>some ((x3.toNat:Int) != 123) else some false)=some true:=by
      rw [w1]; by_cases a1:s[i]=36
      ·
       by_cases hlt1:i + 1 < s.length
       ·
        have n36:¬ s[i + 1]=36:=fun h=>hA ⟨a1,by rw [List.getElem?_eq_getElem hlt1,h]⟩; have n123:¬ s[i + 1]=123:=fun h=>hB ⟨a1,by rw [List.getElem?_eq_getElem hlt1,h]⟩
        have m36:((s[i + 1].toNat:Int) != 36)=true:=by
         rw [bne_iff_ne]; intro h; exact n36 (UInt8.toNat_inj.1 (show s[i + 1].toNat=36 by omega))
        have aiA:((s[i + 1].toNat:Int) != 123)=true:=by
         rw [bne_iff_ne]; intro h; exact n123 (UInt8.toNat_inj.1 (show s[i + 1].toNat=123 by omega))
        rw [if_neg (by rw [a1]; simp; omega)]; simp only [m_ hlt1,ak,m36,aiA,if_true]
       · rw [if_pos (by simp; right; omega)]
      ·
       have m36:((s[i].toNat:Int) != 36)=true:=by
        rw [bne_iff_ne]; intro h; exact a1 (UInt8.toNat_inj.1 (show s[i].toNat=36 by omega))
       rw [if_pos (by rw [m36]; simp)]
     rw [aiw,if_neg (by simp),hb1,ak,if_pos rfl,w1]; exact RI s[i] (i + 1) (by omega) (by omega) (by omega)
  ·
   have e1:decide ((i:Int) < (s.length:Int))=false:=decide_eq_false (by omega); have hr:=RU ps t; simp only [e1,Bool.false_eq_true,if_false]; rw [SA (by omega),ak]; exact ⟨_,_,_,rfl,rfl,O3 (by omega) hg,by omega,fun h=>absurd rfl h⟩
end Go.Ft
namespace Go.Ft
open Go
attribute [local congr] gK
theorem parts_eq (s:Str):∃ (l:List aK) (a c:Int),lU s=some (l,a,c)∧zC s=some (l,a,c)∧(∀ p∈l,Da p)∧l.length≤10000∧(c≠0→l=[]):=by
 unfold lU zC; rcases Nat.lt_or_ge 4096 s.length with h | h
 ·
  rw [if_pos (decide_eq_true (by omega)),if_pos (decide_eq_true (by omega))]; exact ⟨[],0,3,rfl,rfl,by simp,by simp,fun _=>rfl⟩
 ·
  rw [if_neg (by simp; omega),if_neg (by simp; omega)]; have hB:=jL; exact Gu h (s.length + 1) 0 BIG BIG [] [] (by omega) (by omega) (by omega) (Nat.zero_le _) (.inl rfl) (by simp) (by simp) (by simp)
end Go.Ft
namespace Go.Ft
open Go
attribute [local congr] gK
theorem SH :∀ {l:List ah} {x:ah},x∈l→ecnt x≤Bz l
 | y :: r,x,h=>by
  rw [Bz]; rcases List.mem_cons.1 h with h | h
  · subst h; omega
  · have:=SH h; omega
theorem RQ :∀ (n:Nat) (e:ah),e.bulk≤n→e.bulk < 4611686018427387904→ecnt e≤4096→l8 (n + 1) e=some (I5 e)
 | 0,e,h,_,_=>by have:=e.mP; omega
 | n + 1,e,h,hB,hc=>by
  have hal:=CP e; have hlen:=Fx _ e (Nat.le_refl _); have hlim:(I5 e).length≤uU:=by unfold uU; omega
  unfold l8 Bb; have s1:=dU (F:=fun k s i=>u_ (l8 (n + 1)) e k s i) (l:=e.args) (body:=fun _ a1 (o:List Str) r=>ay (l8 (n + 1) a1) fun x1=>ay (app o x1) fun l3=>r l3) (fin:=fun o=>some o) (by omega) (fun k s i=>rfl); have s2:=dU (F:=fun k s i=>u7 (l8 (n + 1)) e k s i) (l:=e.args) (body:=fun _ a1 (o:List Str) r=>ay (l8 (n + 1) a1) fun x1=>ay (app o x1) fun l3=>r l3) (fin:=fun o=>some o) (by omega) (fun k s i=>rfl); have hgo:∀ x∈e.args,l8 (n + 1) x=some (I5 x):=fun x hx=>RQ n x (by have:=jq hx; omega) (by have:=jq hx; omega) (by have:=SH hx; rw [DF] at hc; omega); rw [Mf] at hlim ⊢; rw [List.length_append] at hlim; by_cases hk:(e.kind == 2)=true
  ·
   simp only [hk,if_true] at hlim ⊢; rw [aR (by simp at hlim ⊢; omega),ak,s1,aeD e.args 0 _ hgo (by simp at hlim ⊢; omega)]; simp
  ·
   simp only [Bool.not_eq_true] at hk; simp only [hk,Bool.false_eq_true,if_false,List.nil_append] at hlim ⊢; rw [s2,aeD e.args 0 _ hgo (by simpa using hlim)]; simp
theorem Y3 {e:ah} (h:e.bulk≤137438953472) (hc:ecnt e≤4096):wK e=some (uD (I5 e)):=by
 have hlen:=Fx _ e (Nat.le_refl _); obtain ⟨n,hn,hn2⟩:=tV; unfold wK Ji; rw [hn,RQ n e (by omega) (by omega) hc,ak]; exact LK (fun s hs=>by have:=Fw _ e (Nat.le_refl _) s hs; omega) (by unfold uU; omega)
theorem uO {p:aK} (hp:Da p):p.expr.bulk≤137438953472∧ecnt p.expr≤4096∧(p.EM=false→I5 p.expr=[]):=by
 cases hx:p.EM with
 | true=>
  obtain ⟨_,h2,h3⟩:=hp.1 hx; refine ⟨h3,?_,fun h=>by cases h⟩; unfold xval at h2; split at h2
  · cases h2
  · omega
 | false=>
  rw [(hp.2 hx).2.1]; exact ⟨by decide,by decide,fun _=>rfl⟩
def Oa :List aK→List ah
 | []=>[]
 | p :: r=>if p.EM then p.expr :: Oa r else Oa r
theorem Po :∀ {l:List aK} {s:Str},(∀ p∈l,Da p)→(s∈Jp (Oa l)↔∃ p∈l,s∈I5 p.expr)
 | [],s,_=>by simp [Oa,Jp]
 | p :: r,s,hg=>by
  have ih:=Po (l:=r) (s:=s) fun q hq=>hg q (by simp [hq]); have hp:=(uO (hg p (by simp))).2.2; rw [Oa]; cases hx:p.EM with
  | true=>simp [Jp,ih]
  | false=>simp [ih,hp hx]
theorem QF :∀ {l:List aK},(∀ p∈l,Da p)→((Oa l).map ah.bulk).sum≤137438953472 * l.length∧(Jp (Oa l)).length≤4096 * l.length
 | [],_=>by simp [Oa,Jp]
 | p :: r,hg=>by
  obtain ⟨h1,h2⟩:=QF (l:=r) fun q hq=>hg q (by simp [hq]); obtain ⟨h3,h4,_⟩:=uO (hg p (by simp)); have h5:=Fx _ p.expr (Nat.le_refl _); rw [Oa]; split <;> simp [Jp] <;> omega
theorem GL :∀ (l:List aK) (i:Nat) (o:List ah),o.length + l.length≤uU→
  dR (fun _ (p:aK) (s:List ah) r=>if p.EM then dX (jy s p.expr) fun b1 s2=>if !b1 then some s2 else r s2 else r s) (fun s=>some s) i l o=some (o ++ Oa l)
 | [],i,o,_=>by simp [dR,Oa]
 | p :: r,i,o,h=>by
  simp only [List.length_cons] at h; rw [dR,Oa]; cases hx:p.EM with
  | true=>
   simp only [if_true]; unfold jy; rw [aR (by simp; omega),ak,aC,if_neg (by simp)]; have:=GL r (i + 1) (o ++ [p.expr]) (by simp; omega); unfold jy at this; rw [this]; simp
  | false=>
   simp only [Bool.false_eq_true,if_false]; exact GL r (i + 1) o (by omega)
theorem ZN {l:List aK} (hl:l.length≤10000):jJ jy [] l=some (Oa l):=by
 unfold jJ; have hL:uU=4294967296:=rfl; have sb:=dU (F:=fun k s i=>iA jy l k s i) (l:=l) (body:=fun _ (p:aK) (s:List ah) r=>if p.EM then dX (jy s p.expr) fun b1 s2=>if !b1 then some s2 else r s2 else r s) (fin:=fun s=>some s) (by omega) (fun k s i=>rfl) []; rw [sb,GL l 0 [] (by simp; omega)]; rfl
theorem aaf {l:List aK} (hg:∀ p∈l,Da p) (hl:l.length≤10000):xZ (ah.mk 9 ([]:Str) (av.mk 0 false 0 ([]:Str) [] []) (Oa l) [])=some (uD (Jp (Oa l))):=by
 obtain ⟨n,hn,hn2⟩:=tV; obtain ⟨h1,h2⟩:=QF hg; have hL:uU=4294967296:=rfl; have hm:137438953472 * l.length≤137438953472 * 10000:=Nat.mul_le_mul_left _ hl; have hz:av.bulk (av.mk 0 false 0 ([]:Str) [] [])≤100:=by decide
 have hb:ah.bulk (ah.mk 9 ([]:Str) (av.mk 0 false 0 ([]:Str) [] []) (Oa l) [])≤137438953472 * 10000 + 200:=by
  rw [ah.lZ,ah.pE]; simp only [List.map_nil,List.sum_nil,List.length_nil]; omega
 have hne:I5 (ah.mk 9 ([]:Str) (av.mk 0 false 0 ([]:Str) [] []) (Oa l) [])=Jp (Oa l):=by simp [I5]
 unfold xZ; rw [hn,ac5 n _ [] (by omega) (by omega) (by rw [hne]; simp; omega),ak,List.nil_append,hne]; refine ae4 (fun s hs=>?_) (by omega); have:=Fw _ (ah.mk 9 ([]:Str) (av.mk 0 false 0 ([]:Str) [] []) (Oa l) []) (Nat.le_refl _) s (by rw [hne]; exact hs); omega
theorem Kh :∀ (l:List aK) (i:Nat) (o:List Str),(∀ p∈l,Da p)→o.length + 4096 * l.length≤uU→
  dR (fun _ (p:aK) (s:List Str) r=>ay (wK p.expr) fun x2=>ay (app s x2) fun l3=>r l3) (fun s=>ay (pQ s) fun x3=>some (x3,(0:Int))) i l o=ay (pQ (o ++ l.flatMap fun p=>uD (I5 p.expr))) fun x3=>some (x3,0)
 | [],i,o,_,_=>by simp [dR]
 | p :: r,i,o,hg,h=>by
  simp only [List.length_cons] at h; obtain ⟨h3,h4,_⟩:=uO (hg p (by simp)); have h5:=Fx _ p.expr (Nat.le_refl _); have h6:=GA (I5 p.expr); rw [dR,Y3 h3 h4]; simp only [ak]; rw [aR (by omega),ak,Kh r (i + 1) _ (fun q hq=>hg q (by simp [hq])) (by simp only [List.length_append]; omega),List.flatMap_cons,List.append_assoc]
theorem ZL :∀ {l:List aK},(∀ p∈l,Da p)→(l.flatMap fun p=>uD (I5 p.expr)).length≤4096 * l.length
 | [],_=>by simp
 | p :: r,hg=>by
  obtain ⟨h3,h4,_⟩:=uO (hg p (by simp)); have h5:=Fx _ p.expr (Nat.le_refl _); have h6:=GA (I5 p.expr); have:=ZL (l:=r) fun q hq=>hg q (by simp [hq]); rw [List.flatMap_cons,List.length_append,List.length_cons]; omega
theorem Zn (s:Str):∃ (m:List Str) (c:Int),su s=some (m,c)∧Cg s=some (m,c)∧m.length≤40960000:=by
 obtain ⟨l,a,c,h1,h2,h3,h4,_⟩:=parts_eq s; have hL:uU=4294967296:=rfl; unfold su Cg; rw [h1,h2,aD,aD]; by_cases hc:c=0
 ·
  subst hc; simp only [FV,Bool.false_eq_true,if_false]; have sb:=dU (F:=fun k s i=>u6 l k s i) (l:=l) (body:=fun _ (p:aK) (s:List Str) r=>ay (wK p.expr) fun x2=>ay (app s x2) fun l3=>r l3) (fin:=fun s=>ay (pQ s) fun x3=>some (x3,(0:Int))) (by omega) (fun k s i=>rfl) []; obtain ⟨_,hnl⟩:=QF h3; have hsl:=GA (Jp (Oa l)); have hfl:=ZL h3; rw [ZN h4,ak,aaf h3 h4,ak,sb,Kh l 0 [] h3 (by simp; omega),List.nil_append,LK (fun s hs=>?_) (by omega),ak]
  ·
   refine ⟨_,_,rfl,?_,by omega⟩
   have:uD (l.flatMap fun p=>uD (I5 p.expr))=uD (Jp (Oa l)):=G5 (G6 _) (G6 _) fun x=>by
    rw [Al,Al,Po h3,List.mem_flatMap]; simp only [Al]
   rw [this]
  ·
   obtain ⟨p,hp,hs⟩:=List.mem_flatMap.1 hs; rw [Al] at hs; have:=Fw _ p.expr (Nat.le_refl _) s hs; have:=(uO (h3 p hp)).1; omega
 ·
  rw [if_pos (by simpa using hc),if_pos (by simpa using hc)]; exact ⟨_,_,rfl,rfl,by simp⟩
end Go.Ft
namespace Go.Ft
open Go
attribute [local congr] gK
theorem SY {e:ah} {env:List aO} (h:e.bulk≤137438953472) (hl:env.length≤1048576) (hd:∀ d∈env,d.name.length≤1048576):
  ∃ c:Int,(∀ r:Option Int→Option (Option Int),(dX (jX env none e) fun b1 s2=>if !b1 then some s2 else r s2)=if c=0 then r none else some (some c))∧
   ∀ r:Option Int,(dX (qQ e env) fun x2 f2=>if f2 != 0 then some f2 else if (x2.kind == 5) || (x2.kind == 6) then some 9 else r)=if c=0 then r else some c:=by
 unfold jX; rcases UG (e:=e) (env:=env) (by omega) (by omega) (fun d hx=>by have:=hd d hx; omega) with ⟨c,h0,h1,h2⟩ | ⟨T,_,_,h1,h2,_⟩
 ·
  refine ⟨c,fun r=>?_,fun r=>?_⟩
  ·
   simp only [h1,aC]; rw [if_pos (c:=(c != 0)=true) (by simpa using h0),aC,if_pos (by rfl),if_neg h0]
  · rw [h2,aC,if_pos (by simpa using h0),if_neg h0]
 ·
  by_cases hk:((T.api.kind == 5) || (T.api.kind == 6))=true
  ·
   refine ⟨9,fun r=>?_,fun r=>?_⟩
   ·
    simp only [h1,aC,hk,if_true,FV,Bool.false_eq_true,if_false]; rfl
   ·
    simp only [h2,aC,hk,if_true,FV,Bool.false_eq_true,if_false]; rfl
  ·
   rw [Bool.not_eq_true] at hk; refine ⟨0,fun r=>?_,fun r=>?_⟩
   ·
    simp only [h1,aC,hk,if_true,FV,Bool.false_eq_true,if_false]; rfl
   · simp only [h2,aC,hk,if_true,FV,Bool.false_eq_true,if_false]
theorem Na {env:List aO} (hl:env.length≤1048576) (hd:∀ d∈env,d.name.length≤1048576):∀ (l:List aK) (i:Nat),(∀ p∈l,Da p)→
  ∃ c:Int,dR (fun _ (p:aK) (s:Option Int) r=>if p.EM then dX (jX env s p.expr) fun b1 s2=>if !b1 then some s2 else r s2 else r s) (fun s=>some s) i l none=some (if c=0 then none else some c)∧
   dR (fun (j:Nat) (p:aK) (_:Unit) r=>if !p.EM then r () else dX (qQ p.expr env) fun x2 f2=>if f2 != 0 then some f2 else if (x2.kind == 5) || (x2.kind == 6) then some 9 else r ()) (fun _=>some (0:Int)) i l ()=some c
 | [],i,_=>⟨0,rfl,rfl⟩
 | p :: r,i,hg=>by
  obtain ⟨c,h1,h2⟩:=Na hl hd r (i + 1) fun q hq=>hg q (by simp [hq]); rw [dR,dR]; cases hx:p.EM with
  | false=>exact ⟨c,by simpa using h1,by simpa using h2⟩
  | true=>
   obtain ⟨c',g1,g2⟩:=SY (env:=env) (uO (hg p (by simp))).1 hl hd; simp only [if_true,Bool.not_true,Bool.false_eq_true,if_false]; rw [g1,g2]; by_cases h0:c'=0
   ·
    rw [if_pos h0,if_pos h0]; exact ⟨c,h1,h2⟩
   ·
    rw [if_neg h0,if_neg h0]; exact ⟨c',by rw [if_neg h0],rfl⟩
theorem Xn (s:Str) {env:List aO} (hE:(env.map aO.bulk).sum≤1048576):∃ c:Int,pV s env=some c∧Ch s env=some c:=by
 obtain ⟨hl,hd⟩:=Xy hE; obtain ⟨v1,v2,_⟩:=ZU (env:=env) (by omega) (fun d hdm=>by have:=hd d hdm; omega); obtain ⟨l,a,c,h1,h2,h3,h4,_⟩:=parts_eq s; unfold pV Ch; rw [h1,h2,aD,aD,v1,v2]; by_cases hc:c=0
 ·
  subst hc; simp only [FV,Bool.false_eq_true,if_false,ak]; by_cases hv:SG env=0
  ·
   rw [if_neg (by simp [hv]),if_neg (by simp [hv])]; unfold jJ; have s1:=dU (F:=fun k s i=>iA (jX env) l k s i) (l:=l) (body:=fun _ (p:aK) (s:Option Int) r=>if p.EM then dX (jX env s p.expr) fun b1 s2=>if !b1 then some s2 else r s2 else r s) (fin:=fun s=>some s) (by omega) (fun k s i=>rfl) none; have s2:=dU (F:=fun k (_:Unit) i=>rT env l k i) (l:=l) (body:=fun (j:Nat) (p:aK) (_:Unit) r=>if !p.EM then r () else ay (idx l (j:Int)) fun e3=>dX (qQ e3.expr env) fun x2 f2=>if f2 != 0 then some f2 else if (x2.kind == 5) || (x2.kind == 6) then some 9 else r ()) (fin:=fun _=>some (0:Int)) (by omega) (fun k s i=>rfl) ()
   have s3:∀ (m:List aK) (i:Nat),l.drop i=m→dR (fun (j:Nat) (p:aK) (_:Unit) r=>if !p.EM then r () else ay (idx l (j:Int)) fun e3=>dX (qQ e3.expr env) fun x2 f2=>if f2 != 0 then some f2 else if (x2.kind == 5) || (x2.kind == 6) then some 9 else r ()) (fun _=>some (0:Int)) i m ()=dR (fun (j:Nat) (p:aK) (_:Unit) r=>if !p.EM then r () else dX (qQ p.expr env) fun x2 f2=>if f2 != 0 then some f2 else if (x2.kind == 5) || (x2.kind == 6) then some 9 else r ()) (fun _=>some (0:Int)) i m ():=by
    intro m
    induction m with
    | nil=>intro i _; rfl
    | cons p r ih=>
     intro i hm
     have hi:i < l.length:=by
      rcases Nat.lt_or_ge i l.length with h | h
      · exact h
      · rw [List.drop_eq_nil_of_le h] at hm; cases hm
     rw [List.drop_eq_getElem_cons hi] at hm; injection hm with hp hr; rw [dR,dR,m_ hi,ak,hp]; show (if (!p.EM)=true then dR _ _ (i + 1) r () else _)=_; simp only [ih (i + 1) hr]
   obtain ⟨c,g1,g2⟩:=Na hl hd l 0 h3; have s4:=s3 l 0 rfl; rw [s1,s2,s4,g1,g2,ak]; by_cases h0:c=0
   · subst h0; exact ⟨0,rfl,rfl⟩
   · rw [if_neg h0]; exact ⟨c,rfl,rfl⟩
  ·
   rw [if_pos (by simpa using hv),if_pos (by simpa using hv)]; exact ⟨_,rfl,rfl⟩
 ·
  rw [if_pos (by simpa using hc),if_pos (by simpa using hc)]; exact ⟨_,rfl,rfl⟩
theorem Js (s1:Str) (bM:List aO) (h:(s1.length + 1) + ((List.map (fun z:aO=>(aO.bulk z)) bM).sum + 1)≤1048576):oW s1 bM=some true:=by
 have hE:(bM.map aO.bulk).sum≤1048576:=by
  have h':(List.map (fun z:aO=>(aO.bulk z)) bM).sum≤1048576:=by omega
  exact h'
 unfold oW; split
 · exact V_
 ·
  obtain ⟨m,c,h1,h2,h3⟩:=Zn s1; obtain ⟨f,g1,g2⟩:=Xn s1 hE; rw [h1,h2,aC,aC,if_neg (by simp)]
  have key:∀ (k i:Nat),m.length < k + i→i≤m.length→ko s1 bM m m k (i:Int)=some true:=by
   intro k
   induction k with
   | zero=>intro i h1 h2; omega
   | succ k ih=>
    intro i q1 q2; rw [ko]; by_cases hi:i < m.length
    ·
     rw [if_pos (by simpa using hi)]; simp only [m_ hi,ak,beq_self_eq_true,Bool.not_true,Bool.false_eq_true,if_false]; rw [mh (by omega)]; exact ih (i + 1) (by omega) (by omega)
    ·
     rw [if_neg (by simpa using hi),g1,g2,ak,ak,if_pos (by simp)]; exact V_
  have hB:=jL; exact key BIG 0 (by omega) (by omega)
end Go.Ft
