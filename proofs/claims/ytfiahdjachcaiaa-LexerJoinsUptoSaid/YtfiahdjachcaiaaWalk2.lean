/- Proved here: each function does what its functional text says (part 2). -/
import Derived.Test.YtfiahdjachcaiaaWalk1
set_option linter.unusedVariables false
set_option linter.unusedSimpArgs false
namespace Go.Proofs.Ytfiahdjachcaiaa
open Go Go.Abs Go.Ft
theorem c_l09_LexerStrings (s1 : Str) {r0 : Bool} (hf : l09_LexerStrings s1 = some r0) {τ : List Res} {Q : AOut → List Res → Prop} (h : Q (.ret (.bool r0)) τ) : AC Try.prog 6 [.str s1] τ Q := by
  unfold l09_LexerStrings at hf
  refine AC.none ?_
  refine AC.of_body 71 [.tmp 2] [0] Try.func6 rfl rfl rfl rfl rfl ?_
  refine AW.seq ?_
  refine AW.region ?_
  refine AR.cs FX_ok 1 rfl ?_
  refine AR.nil [0] rfl ?_
  refine AW.seq ?_
  refine AW.region ?_
  refine AR.cs FX_ok 1 rfl ?_
  obtain ⟨q1, h1, hf⟩ := bind1_inv hf
  refine AR.step rfl rfl rfl (AO.call rfl _ rfl rfl pf_15 (c_lexer_Quote _ h1 ?_))
  refine AR.cs FX_ok 1 rfl ?_
  refine AR.nil [0, 3] rfl ?_
  refine AW.seq ?_
  refine AW.seq ?_
  refine AW.region ?_
  refine AR.cs FX_ok 1 rfl ?_
  refine AR.step rfl rfl rfl (AO.len_str rfl rfl rfl rfl un_9 rfl ?_)
  refine AR.cs FX_ok 2 rfl ?_
  refine AR.or 4 13 17 [0, 3] (x := (decide (65536 < (q1.length : Int)))) rfl rfl (fun h2 => ?_) (fun h2 => ?_) ?_
  · skip
    refine AR.is 13 h2 rfl ?_
    refine AR.cs FX_ok 1 rfl ?_
    refine AR.go rfl rfl rfl rfl rfl rfl (AO.len_str rfl rfl rfl rfl un_9 rfl ?_)
    refine AR.cs FX_ok 2 rfl ?_
    refine AR.nil [17, 0, 3] rfl ?_
    exact ⟨rfl, rfl, rfl, rfl⟩
  · skip
    refine AR.is 13 h2 rfl ?_
    refine AR.cs FX_ok 4 rfl ?_
    refine AR.nil [17, 0, 3] rfl ?_
    exact ⟨rfl, rfl, rfl, rfl⟩
  refine AR.nil [0, 3, 17] rfl ?_
  refine AW.cond rfl (fun h3 => ?_) (fun h3 => ?_)
  · replace hf := ite_T h3 hf
    refine AW.seq ?_
    refine AW.region ?_
    replace hf := (bind1_ret _).trans hf
    obtain ⟨x1, h4, hf⟩ := bind1_inv hf
    refine AR.step rfl rfl rfl (AO.call rfl _ rfl rfl pf_9 (c_l09_awake  h4 ?_))
    refine AR.cs FX_ok 1 rfl ?_
    refine AR.nil [2] rfl ?_
    refine AW.ret ?_
    cases hf
    exact ⟨rfl, _, ⟨_, _, rfl, rfl, rfl⟩, [], List.nil_sublist _, h⟩
  · replace hf := ite_F h3 hf
    refine AW.skip ?_
    refine AW.seq ?_
    refine AW.region ?_
    refine AR.cs FX_ok 1 rfl ?_
    obtain ⟨l1, x2, e1, h5, hf⟩ := bind3_inv hf
    refine AR.step rfl rfl rfl (AO.call rfl _ rfl rfl pf_10 (c_lexer_Tokens _ h5 ?_))
    refine AR.cs FX_ok 7 rfl ?_
    refine AR.nil [0, 3, 4, 6] rfl ?_
    refine AW.seq ?_
    refine AW.seq ?_
    refine AW.region ?_
    refine AR.cs FX_ok 3 rfl ?_
    refine AR.or 4 27 31 [0, 3, 4] (x := ((l1.length : Int) != 1)) rfl rfl (fun h6 => ?_) (fun h6 => ?_) ?_
    · skip
      refine AR.is 27 h6 rfl ?_
      refine AR.cs FX_ok 1 rfl ?_
      refine AR.go rfl rfl rfl rfl rfl rfl (AO.len_list (l := l1) rfl rfl rfl rfl es_23 rfl rfl ?_)
      refine AR.cs FX_ok 2 rfl ?_
      refine AR.nil [31, 0, 3, 4] rfl ?_
      exact ⟨rfl, rfl, rfl, rfl⟩
    · skip
      refine AR.is 27 h6 rfl ?_
      refine AR.cs FX_ok 4 rfl ?_
      refine AR.nil [31, 0, 3, 4] rfl ?_
      exact ⟨rfl, rfl, rfl, rfl⟩
    refine AR.cs FX_ok 1 rfl ?_
    obtain ⟨b1, h8, hf⟩ := bind1_inv hf
    refine AR.join1 6 32 38 false [0, 3, 4] b1 rfl rfl (fun h7 => ?_) (fun h7 => ?_) ?_
    · skip
      replace h8 := ite_F h7 h8
      refine AR.is 32 h7 rfl ?_
      refine AR.cs FX_ok 1 rfl ?_
      obtain ⟨e2, h9, h8⟩ := bind1_inv h8
      refine AR.go rfl rfl rfl rfl rfl rfl (AO.idx_list h9 rfl rfl rfl rfl es_23 (ApiToken.cells_eq _) rfl ?_)
      refine AR.cs FX_ok 3 rfl ?_
      cases h8
      refine AR.cs FX_ok 1 rfl ?_
      refine AR.nil [38, 0, 3, 4] rfl ?_
      exact ⟨rfl, rfl, rfl, rfl⟩
    · skip
      replace h8 := ite_T h7 h8
      refine AR.is 32 h7 rfl ?_
      cases h8
      refine AR.cs FX_ok 6 rfl ?_
      refine AR.nil [38, 0, 3, 4] rfl ?_
      exact ⟨rfl, rfl, rfl, rfl⟩
    refine AR.cs FX_ok 1 rfl ?_
    obtain ⟨b2, h11, hf⟩ := bind1_inv hf
    refine AR.join1 7 39 46 false [3, 4] b2 rfl rfl (fun h10 => ?_) (fun h10 => ?_) ?_
    · skip
      replace h11 := ite_F h10 h11
      refine AR.is 39 h10 rfl ?_
      refine AR.cs FX_ok 1 rfl ?_
      obtain ⟨e3, h12, h11⟩ := bind1_inv h11
      refine AR.go rfl rfl rfl rfl rfl rfl (AO.idx_list h12 rfl rfl rfl rfl es_23 (ApiToken.cells_eq _) rfl ?_)
      refine AR.cs FX_ok 4 rfl ?_
      cases h11
      refine AR.cs FX_ok 1 rfl ?_
      refine AR.nil [46, 3, 4] rfl ?_
      exact ⟨rfl, rfl, rfl, rfl⟩
    · skip
      replace h11 := ite_T h10 h11
      refine AR.is 39 h10 rfl ?_
      cases h11
      refine AR.cs FX_ok 7 rfl ?_
      refine AR.nil [46, 3, 4] rfl ?_
      exact ⟨rfl, rfl, rfl, rfl⟩
    refine AR.cs FX_ok 1 rfl ?_
    obtain ⟨b3, h14, hf⟩ := bind1_inv hf
    refine AR.join1 6 47 53 false [3] b3 rfl rfl (fun h13 => ?_) (fun h13 => ?_) ?_
    · skip
      replace h14 := ite_F h13 h14
      refine AR.is 47 h13 rfl ?_
      refine AR.cs FX_ok 1 rfl ?_
      obtain ⟨e4, h15, h14⟩ := bind1_inv h14
      refine AR.go rfl rfl rfl rfl rfl rfl (AO.idx_list h15 rfl rfl rfl rfl es_23 (ApiToken.cells_eq _) rfl ?_)
      refine AR.cs FX_ok 3 rfl ?_
      cases h14
      refine AR.cs FX_ok 1 rfl ?_
      refine AR.nil [53, 3] rfl ?_
      exact ⟨rfl, rfl, rfl, rfl⟩
    · skip
      replace h14 := ite_T h13 h14
      refine AR.is 47 h13 rfl ?_
      cases h14
      refine AR.cs FX_ok 6 rfl ?_
      refine AR.nil [53, 3] rfl ?_
      exact ⟨rfl, rfl, rfl, rfl⟩
    refine AR.nil [3, 53] rfl ?_
    refine AW.cond rfl (fun h16 => ?_) (fun h16 => ?_)
    · replace hf := ite_T h16 hf
      refine AW.seq ?_
      refine AW.region ?_
      refine AR.cs FX_ok 1 rfl ?_
      refine AR.nil [2] rfl ?_
      refine AW.ret ?_
      cases hf
      exact ⟨rfl, _, ⟨_, _, rfl, rfl, rfl⟩, [], List.nil_sublist _, h⟩
    · replace hf := ite_F h16 hf
      refine AW.skip ?_
      refine AW.seq ?_
      refine AW.seq ?_
      refine AW.region ?_
      refine AR.cs FX_ok 1 rfl ?_
      refine AR.nil [3, 7] rfl ?_
      refine AW.block ?_
      refine AW.settle [3, 7] rfl ?_
      refine AW.loopF1 (fun i1 => [(3, .str q1), (7, .int .i64 i1)]) (fun i1 => []) (fun k i1 => l09_LexerStrings_l1 q1 k i1 = some r0) BIG 0 rfl rfl hf (fun _ hz => none_no hz) ?_
      intro k i1 hf
      rw [l09_LexerStrings_l1] at hf
      refine AW.seq ?_
      refine AW.seq ?_
      refine AW.region ?_
      refine AR.cs FX_ok 2 rfl ?_
      refine AR.step rfl rfl rfl (AO.len_str rfl rfl rfl rfl un_9 rfl ?_)
      refine AR.cs FX_ok 1 rfl ?_
      refine AR.nil [3, 7, 57] rfl ?_
      refine AW.cond rfl (fun h17 => ?_) (fun h17 => ?_)
      · replace hf := ite_T h17 hf
        refine AW.skip ?_
        refine AW.seq ?_
        refine AW.block ?_
        refine AW.seq ?_
        refine AW.region ?_
        refine AR.cs FX_ok 2 rfl ?_
        obtain ⟨x3, h18, hf⟩ := bind1_inv hf
        refine AR.step rfl rfl rfl (AO.idx_str h18 rfl un_9 rfl rfl ?_)
        refine AR.cs FX_ok 2 rfl ?_
        obtain ⟨b4, h20, hf⟩ := bind1_inv hf
        refine AR.join1 5 64 69 false [3, 7] b4 rfl rfl (fun h19 => ?_) (fun h19 => ?_) ?_
        · skip
          replace h20 := ite_F h19 h20
          refine AR.is 64 h19 rfl ?_
          refine AR.cs FX_ok 2 rfl ?_
          obtain ⟨x4, h21, h20⟩ := bind1_inv h20
          refine AR.go rfl rfl rfl rfl rfl rfl (AO.idx_str h21 rfl un_9 rfl rfl ?_)
          refine AR.cs FX_ok 1 rfl ?_
          cases h20
          refine AR.cs FX_ok 1 rfl ?_
          refine AR.nil [69, 3, 7] rfl ?_
          exact ⟨rfl, rfl, rfl, rfl⟩
        · skip
          replace h20 := ite_T h19 h20
          refine AR.is 64 h19 rfl ?_
          cases h20
          refine AR.cs FX_ok 5 rfl ?_
          refine AR.nil [69, 3, 7] rfl ?_
          exact ⟨rfl, rfl, rfl, rfl⟩
        refine AR.nil [3, 7, 69] rfl ?_
        refine AW.cond rfl (fun h22 => ?_) (fun h22 => ?_)
        · replace hf := ite_T h22 hf
          refine AW.seq ?_
          refine AW.region ?_
          refine AR.cs FX_ok 1 rfl ?_
          refine AR.nil [2] rfl ?_
          refine AW.ret ?_
          cases hf
          exact ⟨rfl, _, ⟨_, _, rfl, rfl, rfl⟩, [], List.nil_sublist _, h⟩
        · replace hf := ite_F h22 hf
          refine AW.skip ?_
          refine AW.region ?_
          refine AR.cs FX_ok 3 rfl ?_
          refine AR.nil [3, 7] rfl ?_
          exact ⟨(w64 (i1 + 1)), rfl, rfl, rfl, hf⟩
      · replace hf := ite_F h17 hf
        refine AW.exit ?_
        refine AW.seq ?_
        refine AW.region ?_
        replace hf := (bind1_ret _).trans hf
        obtain ⟨x5, h23, hf⟩ := bind1_inv hf
        refine AR.step rfl rfl rfl (AO.call rfl _ rfl rfl pf_9 (c_l09_awake  h23 ?_))
        refine AR.cs FX_ok 1 rfl ?_
        refine AR.nil [2] rfl ?_
        refine AW.ret ?_
        cases hf
        exact ⟨rfl, _, ⟨_, _, rfl, rfl, rfl⟩, [], List.nil_sublist _, h⟩

theorem c_l09_LexerEnds (src1 : Str) (blanks1 : UInt8) {r0 : Bool} (hf : l09_LexerEnds src1 blanks1 = some r0) {τ : List Res} {Q : AOut → List Res → Prop} (h : Q (.ret (.bool r0)) τ) : AC Try.prog 7 [.str src1, .int .u8 (blanks1.toNat : Int)] τ Q := by
  unfold l09_LexerEnds at hf
  refine AC.none ?_
  refine AC.of_body 149 [.tmp 4] [0, 1] Try.func7 rfl rfl rfl rfl rfl ?_
  refine AW.seq ?_
  refine AW.region ?_
  refine AR.cs FX_ok 1 rfl ?_
  refine AR.nil [0, 1] rfl ?_
  refine AW.seq ?_
  refine AW.region ?_
  refine AR.cs FX_ok 1 rfl ?_
  obtain ⟨l1, x1, e1, h1, hf⟩ := bind3_inv hf
  refine AR.step rfl rfl rfl (AO.call rfl _ rfl rfl pf_10 (c_lexer_Tokens _ h1 ?_))
  refine AR.cs FX_ok 7 rfl ?_
  refine AR.nil [0, 1, 5, 7] rfl ?_
  refine AW.seq ?_
  refine AW.seq ?_
  refine AW.region ?_
  refine AR.cs FX_ok 3 rfl ?_
  refine AR.or 4 22 26 [0, 1, 5] (x := (decide (65236 < (src1.length : Int)))) rfl rfl (fun h2 => ?_) (fun h2 => ?_) ?_
  · skip
    refine AR.is 22 h2 rfl ?_
    refine AR.cs FX_ok 1 rfl ?_
    refine AR.go rfl rfl rfl rfl rfl rfl (AO.len_str rfl rfl rfl rfl un_9 rfl ?_)
    refine AR.cs FX_ok 2 rfl ?_
    refine AR.nil [26, 0, 1, 5] rfl ?_
    exact ⟨rfl, rfl, rfl, rfl⟩
  · skip
    refine AR.is 22 h2 rfl ?_
    refine AR.cs FX_ok 4 rfl ?_
    refine AR.nil [26, 0, 1, 5] rfl ?_
    exact ⟨rfl, rfl, rfl, rfl⟩
  refine AR.nil [0, 1, 5, 26] rfl ?_
  refine AW.cond rfl (fun h3 => ?_) (fun h3 => ?_)
  · replace hf := ite_T h3 hf
    refine AW.seq ?_
    refine AW.region ?_
    replace hf := (bind1_ret _).trans hf
    obtain ⟨x2, h4, hf⟩ := bind1_inv hf
    refine AR.step rfl rfl rfl (AO.call rfl _ rfl rfl pf_9 (c_l09_awake  h4 ?_))
    refine AR.cs FX_ok 1 rfl ?_
    refine AR.nil [4] rfl ?_
    refine AW.ret ?_
    cases hf
    exact ⟨rfl, _, ⟨_, _, rfl, rfl, rfl⟩, [], List.nil_sublist _, h⟩
  · replace hf := ite_F h3 hf
    refine AW.skip ?_
    refine AW.seq ?_
    refine AW.region ?_
    refine AR.cs FX_ok 2 rfl ?_
    refine AR.nil [0, 1, 5, 8] rfl ?_
    refine AW.seq ?_
    refine AW.seq ?_
    refine AW.region ?_
    refine AR.cs FX_ok 1 rfl ?_
    refine AR.nil [0, 1, 5, 8, 9] rfl ?_
    refine AW.block ?_
    refine AW.settle [0, 1, 5, 8, 9] rfl ?_
    refine AW.loopF2 (fun s1 i1 => [(0, .str src1), (1, .int .u8 (blanks1.toNat : Int)), (5, .list (List.map ApiToken.cells l1)), (8, .str s1), (9, .int .i64 i1)]) (fun s1 i1 => []) (fun k s1 i1 => l09_LexerEnds_l1 src1 blanks1 l1 k s1 i1 = some r0) BIG src1 0 rfl rfl hf (fun _ _ hz => none_no hz) ?_
    intro k s1 i1 hf
    rw [l09_LexerEnds_l1] at hf
    refine AW.seq ?_
    refine AW.seq ?_
    refine AW.region ?_
    refine AR.cs FX_ok 2 rfl ?_
    refine AR.step rfl rfl rfl (AO.conv_byte rfl un_5 un_3 rfl rfl ?_)
    refine AR.cs FX_ok 1 rfl ?_
    refine AR.nil [0, 1, 5, 8, 9, 32] rfl ?_
    refine AW.cond rfl (fun h5 => ?_) (fun h5 => ?_)
    · replace hf := ite_T h5 hf
      refine AW.skip ?_
      refine AW.seq ?_
      refine AW.block ?_
      refine AW.region ?_
      refine AR.cs FX_ok 1 rfl ?_
      obtain ⟨s2, h6, hf⟩ := bind1_inv hf
      refine AR.step rfl rfl rfl (AO.catF h6 rfl rfl rfl ?_)
      refine AR.cs FX_ok 1 rfl ?_
      refine AR.nil [0, 1, 5, 8, 9] rfl ?_
      refine AW.region ?_
      refine AR.cs FX_ok 3 rfl ?_
      refine AR.nil [0, 1, 5, 8, 9] rfl ?_
      exact ⟨s2, (w64 (i1 + 1)), rfl, rfl, rfl, hf⟩
    · replace hf := ite_F h5 hf
      refine AW.exit ?_
      refine AW.seq ?_
      refine AW.region ?_
      refine AR.cs FX_ok 1 rfl ?_
      obtain ⟨x3, h7, hf⟩ := bind1_inv hf
      refine AR.step rfl rfl rfl (AO.catF h7 rfl rfl rfl ?_)
      obtain ⟨m1, x4, f1, h8, hf⟩ := bind3_inv hf
      refine AR.step rfl rfl rfl (AO.call rfl _ rfl rfl pf_10 (c_lexer_Tokens _ h8 ?_))
      refine AR.cs FX_ok 7 rfl ?_
      refine AR.nil [0, 5, 10, 12] rfl ?_
      refine AW.seq ?_
      refine AW.seq ?_
      refine AW.region ?_
      refine AR.cs FX_ok 3 rfl ?_
      obtain ⟨b1, h10, hf⟩ := bind1_inv hf
      refine AR.join1 5 46 51 false [0, 5] b1 rfl rfl (fun h9 => ?_) (fun h9 => ?_) ?_
      · skip
        replace h10 := ite_F h9 h10
        refine AR.is 46 h9 rfl ?_
        refine AR.cs FX_ok 2 rfl ?_
        obtain ⟨x5, h11, h10⟩ := bind1_inv h10
        refine AR.go rfl rfl rfl rfl rfl rfl (AO.call rfl _ rfl rfl pf_12 (c_r09_Same _ _ _ h11 ?_))
        refine AR.cs FX_ok 1 rfl ?_
        cases h10
        refine AR.cs FX_ok 1 rfl ?_
        refine AR.nil [51, 0, 5] rfl ?_
        exact ⟨rfl, rfl, rfl, rfl⟩
      · skip
        replace h10 := ite_T h9 h10
        refine AR.is 46 h9 rfl ?_
        cases h10
        refine AR.cs FX_ok 5 rfl ?_
        refine AR.nil [51, 0, 5] rfl ?_
        exact ⟨rfl, rfl, rfl, rfl⟩
      refine AR.nil [0, 5, 51] rfl ?_
      refine AW.cond rfl (fun h12 => ?_) (fun h12 => ?_)
      · replace hf := ite_T h12 hf
        refine AW.seq ?_
        refine AW.region ?_
        refine AR.cs FX_ok 1 rfl ?_
        refine AR.nil [4] rfl ?_
        refine AW.ret ?_
        cases hf
        exact ⟨rfl, _, ⟨_, _, rfl, rfl, rfl⟩, [], List.nil_sublist _, h⟩
      · replace hf := ite_F h12 hf
        refine AW.skip ?_
        refine AW.seq ?_
        refine AW.seq ?_
        refine AW.region ?_
        refine AR.cs FX_ok 1 rfl ?_
        refine AR.nil [0, 5, 13] rfl ?_
        refine AW.block ?_
        refine AW.settle [0, 5, 13] rfl ?_
        refine AW.loopF1 (fun i2 => [(0, .str src1), (5, .list (List.map ApiToken.cells l1)), (13, .int .i64 i2)]) (fun i2 => []) (fun k i2 => l09_LexerEnds_l2 src1 l1 k i2 = some r0) BIG 0 rfl rfl hf (fun _ hz => none_no hz) ?_
        intro k i2 hf
        rw [l09_LexerEnds_l2] at hf
        refine AW.seq ?_
        refine AW.seq ?_
        refine AW.region ?_
        refine AR.cs FX_ok 2 rfl ?_
        refine AR.step rfl rfl rfl (AO.len_list (l := l1) rfl rfl rfl rfl es_23 rfl rfl ?_)
        refine AR.cs FX_ok 1 rfl ?_
        refine AR.nil [0, 5, 13, 55] rfl ?_
        refine AW.cond rfl (fun h13 => ?_) (fun h13 => ?_)
        · replace hf := ite_T h13 hf
          refine AW.skip ?_
          refine AW.seq ?_
          refine AW.block ?_
          refine AW.seq ?_
          refine AW.seq ?_
          refine AW.draw 34 mixed (by kernel_rfl) rfl ?_
          refine Ev.cs FX_ok 2 rfl ?_
          obtain ⟨e2, h14, hf⟩ := bind1_inv hf
          refine Ev.cons rfl rfl rfl (AO.idx_list h14 rfl rfl rfl rfl es_23 (ApiToken.cells_eq _) rfl ⟨rfl, rfl⟩) ?_
          refine Ev.cs FX_ok 4 rfl ?_
          obtain ⟨b2, h16, hf⟩ := bind1_inv hf
          refine Ev.join1 hKA 9 64 73 false [0, 5, 13] (.bool b2) rfl rfl (fun h15 => ?_) (fun h15 => ?_) ?_
          · skip
            replace h16 := ite_F h15 h16
            refine Ev.is hKL 64 h15 rfl ?_
            refine Ev.cs FX_ok 2 rfl ?_
            obtain ⟨e3, h17, h16⟩ := bind1_inv h16
            refine Ev.run rfl rfl rfl rfl rfl rfl rfl (AO.idx_list h17 rfl rfl rfl rfl es_23 (ApiToken.cells_eq _) rfl ⟨rfl, rfl⟩) ?_
            refine Ev.cs FX_ok 3 rfl ?_
            refine Ev.run rfl rfl rfl rfl rfl rfl rfl (AO.len_str rfl rfl rfl rfl un_9 rfl ⟨rfl, rfl⟩) ?_
            refine Ev.cs FX_ok 1 rfl ?_
            cases h16
            refine Ev.cs FX_ok 1 rfl ?_
            exact Ev.nil (Less.settle (ps := [73, 0, 5, 13]) rfl)
          · skip
            replace h16 := ite_T h15 h16
            refine Ev.is hKL 64 h15 rfl ?_
            cases h16
            refine Ev.cs FX_ok 9 rfl ?_
            exact Ev.nil (Less.settle (ps := [73, 0, 5, 13]) rfl)
          refine Ev.cs FX_ok 1 rfl ?_
          obtain ⟨b3, h19, hf⟩ := bind1_inv hf
          refine Ev.join1 hKA 17 74 91 false [0, 5, 13] (.bool b3) rfl rfl (fun h18 => ?_) (fun h18 => ?_) ?_
          · skip
            replace h19 := ite_F h18 h19
            refine Ev.is hKL 74 h18 rfl ?_
            refine Ev.cs FX_ok 3 rfl ?_
            replace h19 := (bind1_ret _).trans h19
            obtain ⟨b4, h21, h19⟩ := bind1_inv h19
            refine Ev.join1 hKL 13 77 90 true [0, 5, 13, 74] (.bool b4) rfl rfl (fun h20 => ?_) (fun h20 => ?_) ?_
            · skip
              replace h21 := ite_T h20 h21
              refine Ev.is hKL 77 h20 rfl ?_
              refine Ev.cs FX_ok 2 rfl ?_
              obtain ⟨e4, h22, h21⟩ := bind1_inv h21
              refine Ev.run rfl rfl rfl rfl rfl rfl rfl (AO.idx_list h22 rfl rfl rfl rfl es_23 (ApiToken.cells_eq _) rfl ⟨rfl, rfl⟩) ?_
              refine Ev.cs FX_ok 5 rfl ?_
              obtain ⟨e5, h23, h21⟩ := bind1_inv h21
              refine Ev.run rfl rfl rfl rfl rfl rfl rfl (AO.idx_list h23 rfl rfl rfl rfl es_23 (ApiToken.cells_eq _) rfl ⟨rfl, rfl⟩) ?_
              refine Ev.cs FX_ok 3 rfl ?_
              cases h21
              refine Ev.cs FX_ok 1 rfl ?_
              exact Ev.nil (Less.settle (ps := [90, 0, 5, 13, 74]) rfl)
            · skip
              replace h21 := ite_F h20 h21
              refine Ev.is hKL 77 h20 rfl ?_
              cases h21
              refine Ev.cs FX_ok 13 rfl ?_
              exact Ev.nil (Less.settle (ps := [90, 0, 5, 13, 74]) rfl)
            cases h19
            refine Ev.cs FX_ok 1 rfl ?_
            exact Ev.nil (Less.settle (ps := [91, 0, 5, 13]) rfl)
          · skip
            replace h19 := ite_T h18 h19
            refine Ev.is hKL 74 h18 rfl ?_
            cases h19
            refine Ev.cs FX_ok 17 rfl ?_
            exact Ev.nil (Less.settle (ps := [91, 0, 5, 13]) rfl)
          refine Ev.nil ?_
          show AR _ _ _ _ _ _ _ _
          refine AR.nil [0, 5, 13, 91] rfl ?_
          refine AW.cond rfl (fun h24 => ?_) (fun h24 => ?_)
          · replace hf := ite_T h24 hf
            refine AW.seq ?_
            refine AW.region ?_
            refine AR.cs FX_ok 1 rfl ?_
            refine AR.nil [4] rfl ?_
            refine AW.ret ?_
            cases hf
            exact ⟨rfl, _, ⟨_, _, rfl, rfl, rfl⟩, [], List.nil_sublist _, h⟩
          · replace hf := ite_F h24 hf
            refine AW.skip ?_
            refine AW.seq ?_
            refine AW.seq ?_
            refine AW.region ?_
            refine AR.cs FX_ok 2 rfl ?_
            obtain ⟨e6, h25, hf⟩ := bind1_inv hf
            refine AR.step rfl rfl rfl (AO.idx_list h25 rfl rfl rfl rfl es_23 (ApiToken.cells_eq _) rfl ?_)
            refine AR.cs FX_ok 4 rfl ?_
            obtain ⟨b5, h27, hf⟩ := bind1_inv hf
            refine AR.join1 7 98 105 false [0, 5, 13] b5 rfl rfl (fun h26 => ?_) (fun h26 => ?_) ?_
            · skip
              replace h27 := ite_F h26 h27
              refine AR.is 98 h26 rfl ?_
              refine AR.cs FX_ok 2 rfl ?_
              obtain ⟨e7, h28, h27⟩ := bind1_inv h27
              refine AR.go rfl rfl rfl rfl rfl rfl (AO.idx_list h28 rfl rfl rfl rfl es_23 (ApiToken.cells_eq _) rfl ?_)
              refine AR.cs FX_ok 3 rfl ?_
              cases h27
              refine AR.cs FX_ok 1 rfl ?_
              refine AR.nil [105, 0, 5, 13] rfl ?_
              exact ⟨rfl, rfl, rfl, rfl⟩
            · skip
              replace h27 := ite_T h26 h27
              refine AR.is 98 h26 rfl ?_
              cases h27
              refine AR.cs FX_ok 7 rfl ?_
              refine AR.nil [105, 0, 5, 13] rfl ?_
              exact ⟨rfl, rfl, rfl, rfl⟩
            refine AR.nil [0, 5, 13, 105] rfl ?_
            refine AW.cond rfl (fun h29 => ?_) (fun h29 => ?_)
            · replace hf := ite_T h29 hf
              refine AW.exit ?_
              refine AW.region ?_
              refine AR.cs FX_ok 3 rfl ?_
              refine AR.nil [0, 5, 13] rfl ?_
              exact ⟨(w64 (i2 + 1)), rfl, rfl, rfl, hf⟩
            · replace hf := ite_F h29 hf
              refine AW.skip ?_
              refine AW.seq ?_
              refine AW.draw 42 mixed (by kernel_rfl) rfl ?_
              refine Ev.cs FX_ok 2 rfl ?_
              obtain ⟨e8, h30, hf⟩ := bind1_inv hf
              refine Ev.cons rfl rfl rfl (AO.idx_list h30 rfl rfl rfl rfl es_23 (ApiToken.cells_eq _) rfl ⟨rfl, rfl⟩) ?_
              refine Ev.cs FX_ok 4 rfl ?_
              obtain ⟨e9, h31, hf⟩ := bind1_inv hf
              refine Ev.cons rfl rfl rfl (AO.idx_list h31 rfl rfl rfl rfl es_23 (ApiToken.cells_eq _) rfl ⟨rfl, rfl⟩) ?_
              refine Ev.cs FX_ok 2 rfl ?_
              refine Ev.cons rfl rfl rfl (AO.len_str rfl rfl rfl rfl un_9 rfl ⟨rfl, rfl⟩) ?_
              refine Ev.cs FX_ok 2 rfl ?_
              refine Ev.cons rfl rfl rfl (AO.len_str rfl rfl rfl rfl un_9 rfl ⟨rfl, rfl⟩) ?_
              refine Ev.cs FX_ok 2 rfl ?_
              obtain ⟨b6, h33, hf⟩ := bind1_inv hf
              refine Ev.join1 hKA 26 121 147 false [0, 5, 13] (.bool b6) rfl rfl (fun h32 => ?_) (fun h32 => ?_) ?_
              · skip
                replace h33 := ite_F h32 h33
                refine Ev.is hKL 121 h32 rfl ?_
                refine Ev.cs FX_ok 3 rfl ?_
                obtain ⟨e10, h34, h33⟩ := bind1_inv h33
                refine Ev.run rfl rfl rfl rfl rfl rfl rfl (AO.idx_list h34 rfl rfl rfl rfl es_23 (ApiToken.cells_eq _) rfl ⟨rfl, rfl⟩) ?_
                refine Ev.cs FX_ok 4 rfl ?_
                obtain ⟨e11, h35, h33⟩ := bind1_inv h33
                refine Ev.run rfl rfl rfl rfl rfl rfl rfl (AO.idx_list h35 rfl rfl rfl rfl es_23 (ApiToken.cells_eq _) rfl ⟨rfl, rfl⟩) ?_
                refine Ev.cs FX_ok 4 rfl ?_
                obtain ⟨e12, h36, h33⟩ := bind1_inv h33
                refine Ev.run rfl rfl rfl rfl rfl rfl rfl (AO.idx_list h36 rfl rfl rfl rfl es_23 (ApiToken.cells_eq _) rfl ⟨rfl, rfl⟩) ?_
                refine Ev.cs FX_ok 2 rfl ?_
                refine Ev.run rfl rfl rfl rfl rfl rfl rfl (AO.len_str rfl rfl rfl rfl un_9 rfl ⟨rfl, rfl⟩) ?_
                refine Ev.cs FX_ok 1 rfl ?_
                obtain ⟨x6, h37, h33⟩ := bind1_inv h33
                refine Ev.run rfl rfl rfl rfl rfl rfl rfl (AO.sl_str h37 rfl un_9 rfl ⟨_, rfl⟩ ⟨_, rfl⟩ ⟨rfl, rfl⟩) ?_
                refine Ev.cs FX_ok 2 rfl ?_
                obtain ⟨e13, h38, h33⟩ := bind1_inv h33
                refine Ev.run rfl rfl rfl rfl rfl rfl rfl (AO.idx_list h38 rfl rfl rfl rfl es_23 (ApiToken.cells_eq _) rfl ⟨rfl, rfl⟩) ?_
                refine Ev.cs FX_ok 3 rfl ?_
                cases h33
                refine Ev.cs FX_ok 1 rfl ?_
                exact Ev.nil (Less.settle (ps := [147, 0, 5, 13]) rfl)
              · skip
                replace h33 := ite_T h32 h33
                refine Ev.is hKL 121 h32 rfl ?_
                cases h33
                refine Ev.cs FX_ok 26 rfl ?_
                exact Ev.nil (Less.settle (ps := [147, 0, 5, 13]) rfl)
              refine Ev.nil ?_
              show AR _ _ _ _ _ _ _ _
              refine AR.nil [0, 5, 13, 147] rfl ?_
              refine AW.cond rfl (fun h39 => ?_) (fun h39 => ?_)
              · replace hf := ite_T h39 hf
                refine AW.seq ?_
                refine AW.region ?_
                refine AR.cs FX_ok 1 rfl ?_
                refine AR.nil [4] rfl ?_
                refine AW.ret ?_
                cases hf
                exact ⟨rfl, _, ⟨_, _, rfl, rfl, rfl⟩, [], List.nil_sublist _, h⟩
              · replace hf := ite_F h39 hf
                refine AW.skip ?_
                refine AW.region ?_
                refine AR.cs FX_ok 3 rfl ?_
                refine AR.nil [0, 5, 13] rfl ?_
                exact ⟨(w64 (i2 + 1)), rfl, rfl, rfl, hf⟩
        · replace hf := ite_F h13 hf
          refine AW.exit ?_
          refine AW.seq ?_
          refine AW.region ?_
          replace hf := (bind1_ret _).trans hf
          obtain ⟨x7, h40, hf⟩ := bind1_inv hf
          refine AR.step rfl rfl rfl (AO.call rfl _ rfl rfl pf_9 (c_l09_awake  h40 ?_))
          refine AR.cs FX_ok 1 rfl ?_
          refine AR.nil [4] rfl ?_
          refine AW.ret ?_
          cases hf
          exact ⟨rfl, _, ⟨_, _, rfl, rfl, rfl⟩, [], List.nil_sublist _, h⟩

theorem c_l09_LexerLines (a1 : Str) (b1 : Str) {r0 : Bool} (hf : l09_LexerLines a1 b1 = some r0) {τ : List Res} {Q : AOut → List Res → Prop} (h : Q (.ret (.bool r0)) τ) : AC Try.prog 8 [.str a1, .str b1] τ Q := by
  unfold l09_LexerLines at hf
  refine AC.none ?_
  refine AC.of_body 150 [.tmp 4] [0, 1] Try.func8 rfl rfl rfl rfl rfl ?_
  refine AW.seq ?_
  refine AW.region ?_
  refine AR.cs FX_ok 1 rfl ?_
  refine AR.nil [0, 1] rfl ?_
  refine AW.seq ?_
  refine AW.region ?_
  refine AR.cs FX_ok 1 rfl ?_
  obtain ⟨l1, x1, e1, h1, hf⟩ := bind3_inv hf
  refine AR.step rfl rfl rfl (AO.call rfl _ rfl rfl pf_10 (c_lexer_Tokens _ h1 ?_))
  refine AR.cs FX_ok 7 rfl ?_
  refine AR.nil [0, 1, 5, 7] rfl ?_
  refine AW.seq ?_
  refine AW.region ?_
  refine AR.cs FX_ok 1 rfl ?_
  obtain ⟨m1, x2, f1, h2, hf⟩ := bind3_inv hf
  refine AR.step rfl rfl rfl (AO.call rfl _ rfl rfl pf_10 (c_lexer_Tokens _ h2 ?_))
  refine AR.cs FX_ok 7 rfl ?_
  refine AR.nil [0, 1, 5, 7, 8, 10] rfl ?_
  refine AW.seq ?_
  refine AW.seq ?_
  refine AW.region ?_
  refine AR.cs FX_ok 3 rfl ?_
  refine AR.or 3 31 34 [0, 1, 5, 8] (x := (f1 != 0)) rfl rfl (fun h3 => ?_) (fun h3 => ?_) ?_
  · skip
    refine AR.is 31 h3 rfl ?_
    refine AR.cs FX_ok 3 rfl ?_
    refine AR.nil [34, 0, 1, 5, 8] rfl ?_
    exact ⟨rfl, rfl, rfl, rfl⟩
  · skip
    refine AR.is 31 h3 rfl ?_
    refine AR.cs FX_ok 3 rfl ?_
    refine AR.nil [34, 0, 1, 5, 8] rfl ?_
    exact ⟨rfl, rfl, rfl, rfl⟩
  refine AR.cs FX_ok 1 rfl ?_
  refine AR.or 8 35 43 [0, 1, 5, 8] (x := (decide (65536 < (w64 ((w64 ((a1.length : Int) + (b1.length : Int))) + 1))))) rfl rfl (fun h4 => ?_) (fun h4 => ?_) ?_
  · skip
    refine AR.is 35 h4 rfl ?_
    refine AR.cs FX_ok 1 rfl ?_
    refine AR.go rfl rfl rfl rfl rfl rfl (AO.len_str rfl rfl rfl rfl un_9 rfl ?_)
    refine AR.cs FX_ok 1 rfl ?_
    refine AR.go rfl rfl rfl rfl rfl rfl (AO.len_str rfl rfl rfl rfl un_9 rfl ?_)
    refine AR.cs FX_ok 4 rfl ?_
    refine AR.nil [43, 0, 1, 5, 8] rfl ?_
    exact ⟨rfl, rfl, rfl, rfl⟩
  · skip
    refine AR.is 35 h4 rfl ?_
    refine AR.cs FX_ok 8 rfl ?_
    refine AR.nil [43, 0, 1, 5, 8] rfl ?_
    exact ⟨rfl, rfl, rfl, rfl⟩
  refine AR.cs FX_ok 1 rfl ?_
  refine AR.or 4 44 48 [0, 1, 5, 8] (x := ((l1.length : Int) == 0)) rfl rfl (fun h5 => ?_) (fun h5 => ?_) ?_
  · skip
    refine AR.is 44 h5 rfl ?_
    refine AR.cs FX_ok 1 rfl ?_
    refine AR.go rfl rfl rfl rfl rfl rfl (AO.len_list (l := l1) rfl rfl rfl rfl es_23 rfl rfl ?_)
    refine AR.cs FX_ok 2 rfl ?_
    refine AR.nil [48, 0, 1, 5, 8] rfl ?_
    exact ⟨rfl, rfl, rfl, rfl⟩
  · skip
    refine AR.is 44 h5 rfl ?_
    refine AR.cs FX_ok 4 rfl ?_
    refine AR.nil [48, 0, 1, 5, 8] rfl ?_
    exact ⟨rfl, rfl, rfl, rfl⟩
  refine AR.cs FX_ok 1 rfl ?_
  refine AR.or 4 49 53 [0, 1, 5, 8] (x := ((m1.length : Int) == 0)) rfl rfl (fun h6 => ?_) (fun h6 => ?_) ?_
  · skip
    refine AR.is 49 h6 rfl ?_
    refine AR.cs FX_ok 1 rfl ?_
    refine AR.go rfl rfl rfl rfl rfl rfl (AO.len_list (l := m1) rfl rfl rfl rfl es_23 rfl rfl ?_)
    refine AR.cs FX_ok 2 rfl ?_
    refine AR.nil [53, 0, 1, 5, 8] rfl ?_
    exact ⟨rfl, rfl, rfl, rfl⟩
  · skip
    refine AR.is 49 h6 rfl ?_
    refine AR.cs FX_ok 4 rfl ?_
    refine AR.nil [53, 0, 1, 5, 8] rfl ?_
    exact ⟨rfl, rfl, rfl, rfl⟩
  refine AR.nil [0, 1, 5, 8, 53] rfl ?_
  refine AW.cond rfl (fun h7 => ?_) (fun h7 => ?_)
  · replace hf := ite_T h7 hf
    refine AW.seq ?_
    refine AW.region ?_
    replace hf := (bind1_ret _).trans hf
    obtain ⟨x3, h8, hf⟩ := bind1_inv hf
    refine AR.step rfl rfl rfl (AO.call rfl _ rfl rfl pf_9 (c_l09_awake  h8 ?_))
    refine AR.cs FX_ok 1 rfl ?_
    refine AR.nil [4] rfl ?_
    refine AW.ret ?_
    cases hf
    exact ⟨rfl, _, ⟨_, _, rfl, rfl, rfl⟩, [], List.nil_sublist _, h⟩
  · replace hf := ite_F h7 hf
    refine AW.skip ?_
    refine AW.seq ?_
    refine AW.region ?_
    refine AR.cs FX_ok 1 rfl ?_
    refine AR.nil [0, 1, 5, 8, 11] rfl ?_
    refine AW.seq ?_
    refine AW.seq ?_
    refine AW.region ?_
    refine AR.cs FX_ok 1 rfl ?_
    refine AR.nil [0, 1, 5, 8, 11, 12] rfl ?_
    refine AW.block ?_
    refine AW.settle [0, 1, 5, 8, 11, 12] rfl ?_
    refine AW.loopF2 (fun open1 i1 => [(0, .str a1), (1, .str b1), (5, .list (List.map ApiToken.cells l1)), (8, .list (List.map ApiToken.cells m1)), (11, .int .i64 open1), (12, .int .i64 i1)]) (fun open1 i1 => []) (fun k open1 i1 => l09_LexerLines_l1 a1 b1 l1 m1 k open1 i1 = some r0) BIG 0 0 rfl rfl hf (fun _ _ hz => none_no hz) ?_
    intro k open1 i1 hf
    rw [l09_LexerLines_l1] at hf
    refine AW.seq ?_
    refine AW.seq ?_
    refine AW.region ?_
    refine AR.cs FX_ok 2 rfl ?_
    refine AR.step rfl rfl rfl (AO.len_list (l := l1) rfl rfl rfl rfl es_23 rfl rfl ?_)
    refine AR.cs FX_ok 1 rfl ?_
    refine AR.nil [0, 1, 5, 8, 11, 12, 58] rfl ?_
    refine AW.cond rfl (fun h9 => ?_) (fun h9 => ?_)
    · replace hf := ite_T h9 hf
      refine AW.skip ?_
      refine AW.seq ?_
      refine AW.block ?_
      refine AW.seq ?_
      refine AW.region ?_
      refine AR.cs FX_ok 2 rfl ?_
      obtain ⟨e2, h10, hf⟩ := bind1_inv hf
      refine AR.step rfl rfl rfl (AO.idx_list h10 rfl rfl rfl rfl es_23 (ApiToken.cells_eq _) rfl ?_)
      refine AR.cs FX_ok 4 rfl ?_
      obtain ⟨b2, h12, hf⟩ := bind1_inv hf
      refine AR.join1 39 67 106 false [0, 1, 5, 8, 11, 12] b2 rfl rfl (fun h11 => ?_) (fun h11 => ?_) ?_
      · skip
        replace h12 := ite_F h11 h12
        refine AR.is 67 h11 rfl ?_
        refine AR.cs FX_ok 2 rfl ?_
        obtain ⟨e3, h13, h12⟩ := bind1_inv h12
        refine AR.go rfl rfl rfl rfl rfl rfl (AO.idx_list h13 rfl rfl rfl rfl es_23 (ApiToken.cells_eq _) rfl ?_)
        refine AR.cs FX_ok 4 rfl ?_
        replace h12 := (bind1_ret _).trans h12
        obtain ⟨b3, h15, h12⟩ := bind1_inv h12
        refine AR.join1 31 74 105 true [0, 1, 5, 8, 11, 12, 67] b3 rfl rfl (fun h14 => ?_) (fun h14 => ?_) ?_
        · skip
          replace h15 := ite_T h14 h15
          refine AR.is 74 h14 rfl ?_
          refine AR.cs FX_ok 2 rfl ?_
          obtain ⟨e4, h16, h15⟩ := bind1_inv h15
          refine AR.go rfl rfl rfl rfl rfl rfl (AO.idx_list h16 rfl rfl rfl rfl es_23 (ApiToken.cells_eq _) rfl ?_)
          refine AR.cs FX_ok 4 rfl ?_
          obtain ⟨b4, h18, h15⟩ := bind1_inv h15
          refine AR.join1 7 81 88 false [0, 1, 5, 8, 11, 12, 67, 74] b4 rfl rfl (fun h17 => ?_) (fun h17 => ?_) ?_
          · skip
            replace h18 := ite_F h17 h18
            refine AR.is 81 h17 rfl ?_
            refine AR.cs FX_ok 2 rfl ?_
            obtain ⟨e5, h19, h18⟩ := bind1_inv h18
            refine AR.go rfl rfl rfl rfl rfl rfl (AO.idx_list h19 rfl rfl rfl rfl es_23 (ApiToken.cells_eq _) rfl ?_)
            refine AR.cs FX_ok 3 rfl ?_
            cases h18
            refine AR.cs FX_ok 1 rfl ?_
            refine AR.nil [88, 0, 1, 5, 8, 11, 12, 67, 74] rfl ?_
            exact ⟨rfl, rfl, rfl, rfl⟩
          · skip
            replace h18 := ite_T h17 h18
            refine AR.is 81 h17 rfl ?_
            cases h18
            refine AR.cs FX_ok 7 rfl ?_
            refine AR.nil [88, 0, 1, 5, 8, 11, 12, 67, 74] rfl ?_
            exact ⟨rfl, rfl, rfl, rfl⟩
          refine AR.cs FX_ok 1 rfl ?_
          obtain ⟨b5, h21, h15⟩ := bind1_inv h15
          refine AR.join1 7 89 96 false [0, 1, 5, 8, 11, 12, 67, 74] b5 rfl rfl (fun h20 => ?_) (fun h20 => ?_) ?_
          · skip
            replace h21 := ite_F h20 h21
            refine AR.is 89 h20 rfl ?_
            refine AR.cs FX_ok 2 rfl ?_
            obtain ⟨e6, h22, h21⟩ := bind1_inv h21
            refine AR.go rfl rfl rfl rfl rfl rfl (AO.idx_list h22 rfl rfl rfl rfl es_23 (ApiToken.cells_eq _) rfl ?_)
            refine AR.cs FX_ok 3 rfl ?_
            cases h21
            refine AR.cs FX_ok 1 rfl ?_
            refine AR.nil [96, 0, 1, 5, 8, 11, 12, 67, 74] rfl ?_
            exact ⟨rfl, rfl, rfl, rfl⟩
          · skip
            replace h21 := ite_T h20 h21
            refine AR.is 89 h20 rfl ?_
            cases h21
            refine AR.cs FX_ok 7 rfl ?_
            refine AR.nil [96, 0, 1, 5, 8, 11, 12, 67, 74] rfl ?_
            exact ⟨rfl, rfl, rfl, rfl⟩
          refine AR.cs FX_ok 1 rfl ?_
          replace h15 := (bind1_ret _).trans h15
          obtain ⟨b6, h24, h15⟩ := bind1_inv h15
          refine AR.join1 7 97 104 false [0, 1, 5, 8, 11, 12, 67, 74] b6 rfl rfl (fun h23 => ?_) (fun h23 => ?_) ?_
          · skip
            replace h24 := ite_F h23 h24
            refine AR.is 97 h23 rfl ?_
            refine AR.cs FX_ok 2 rfl ?_
            obtain ⟨e7, h25, h24⟩ := bind1_inv h24
            refine AR.go rfl rfl rfl rfl rfl rfl (AO.idx_list h25 rfl rfl rfl rfl es_23 (ApiToken.cells_eq _) rfl ?_)
            refine AR.cs FX_ok 3 rfl ?_
            cases h24
            refine AR.cs FX_ok 1 rfl ?_
            refine AR.nil [104, 0, 1, 5, 8, 11, 12, 67, 74] rfl ?_
            exact ⟨rfl, rfl, rfl, rfl⟩
          · skip
            replace h24 := ite_T h23 h24
            refine AR.is 97 h23 rfl ?_
            cases h24
            refine AR.cs FX_ok 7 rfl ?_
            refine AR.nil [104, 0, 1, 5, 8, 11, 12, 67, 74] rfl ?_
            exact ⟨rfl, rfl, rfl, rfl⟩
          cases h15
          refine AR.cs FX_ok 1 rfl ?_
          refine AR.nil [105, 0, 1, 5, 8, 11, 12, 67] rfl ?_
          exact ⟨rfl, rfl, rfl, rfl⟩
        · skip
          replace h15 := ite_F h14 h15
          refine AR.is 74 h14 rfl ?_
          cases h15
          refine AR.cs FX_ok 31 rfl ?_
          refine AR.nil [105, 0, 1, 5, 8, 11, 12, 67] rfl ?_
          exact ⟨rfl, rfl, rfl, rfl⟩
        cases h12
        refine AR.cs FX_ok 1 rfl ?_
        refine AR.nil [106, 0, 1, 5, 8, 11, 12] rfl ?_
        exact ⟨rfl, rfl, rfl, rfl⟩
      · skip
        replace h12 := ite_T h11 h12
        refine AR.is 67 h11 rfl ?_
        cases h12
        refine AR.cs FX_ok 39 rfl ?_
        refine AR.nil [106, 0, 1, 5, 8, 11, 12] rfl ?_
        exact ⟨rfl, rfl, rfl, rfl⟩
      refine AR.nil [0, 1, 5, 8, 11, 12, 106] rfl ?_
      refine AW.cond rfl (fun h26 => ?_) (fun h26 => ?_)
      · replace hf := ite_T h26 hf
        refine AW.region ?_
        refine AR.cs FX_ok 3 rfl ?_
        refine AR.nil [0, 1, 5, 8, 11, 12] rfl ?_
        refine AW.region ?_
        refine AR.cs FX_ok 3 rfl ?_
        refine AR.nil [0, 1, 5, 8, 11, 12] rfl ?_
        exact ⟨(w64 (open1 + 1)), (w64 (i1 + 1)), rfl, rfl, rfl, hf⟩
      · replace hf := ite_F h26 hf
        refine AW.skip ?_
        refine AW.region ?_
        refine AR.cs FX_ok 3 rfl ?_
        refine AR.nil [0, 1, 5, 8, 11, 12] rfl ?_
        exact ⟨open1, (w64 (i1 + 1)), rfl, rfl, rfl, hf⟩
    · replace hf := ite_F h9 hf
      refine AW.exit ?_
      refine AW.seq ?_
      refine AW.seq ?_
      refine AW.region ?_
      refine AR.cs FX_ok 3 rfl ?_
      obtain ⟨b7, h28, hf⟩ := bind1_inv hf
      refine AR.join1 6 111 117 false [0, 1, 5, 8] b7 rfl rfl (fun h27 => ?_) (fun h27 => ?_) ?_
      · skip
        replace h28 := ite_F h27 h28
        refine AR.is 111 h27 rfl ?_
        refine AR.cs FX_ok 1 rfl ?_
        obtain ⟨e8, h29, h28⟩ := bind1_inv h28
        refine AR.go rfl rfl rfl rfl rfl rfl (AO.idx_list h29 rfl rfl rfl rfl es_23 (ApiToken.cells_eq _) rfl ?_)
        refine AR.cs FX_ok 3 rfl ?_
        cases h28
        refine AR.cs FX_ok 1 rfl ?_
        refine AR.nil [117, 0, 1, 5, 8] rfl ?_
        exact ⟨rfl, rfl, rfl, rfl⟩
      · skip
        replace h28 := ite_T h27 h28
        refine AR.is 111 h27 rfl ?_
        cases h28
        refine AR.cs FX_ok 6 rfl ?_
        refine AR.nil [117, 0, 1, 5, 8] rfl ?_
        exact ⟨rfl, rfl, rfl, rfl⟩
      refine AR.nil [0, 1, 5, 8, 117] rfl ?_
      refine AW.cond rfl (fun h30 => ?_) (fun h30 => ?_)
      · replace hf := ite_T h30 hf
        refine AW.seq ?_
        refine AW.region ?_
        replace hf := (bind1_ret _).trans hf
        obtain ⟨x4, h31, hf⟩ := bind1_inv hf
        refine AR.step rfl rfl rfl (AO.call rfl _ rfl rfl pf_9 (c_l09_awake  h31 ?_))
        refine AR.cs FX_ok 1 rfl ?_
        refine AR.nil [4] rfl ?_
        refine AW.ret ?_
        cases hf
        exact ⟨rfl, _, ⟨_, _, rfl, rfl, rfl⟩, [], List.nil_sublist _, h⟩
      · replace hf := ite_F h30 hf
        refine AW.skip ?_
        refine AW.seq ?_
        refine AW.region ?_
        refine AR.cs FX_ok 1 rfl ?_
        refine AR.nil [0, 1, 5, 8, 13] rfl ?_
        refine AW.seq ?_
        refine AW.region ?_
        refine AR.cs FX_ok 2 rfl ?_
        refine AR.row 3 35 ?_
        obtain ⟨want1, h32, hf⟩ := bind1_inv hf
        refine AR.step rfl rfl rfl (AO.app_own (i := 0) (l := []) (m := l1) h32 rfl rfl rfl rfl rfl rfl rfl sf_23 es_23 rfl rfl rfl (ApiToken.cells_len) (ApiToken.cells_one) (by decide) (fun v1 s1 hs1 => ?_))
        cases hs1
        refine AR.cs FX_ok 1 rfl ?_
        refine AR.nil [0, 1, 8, 13] rfl ?_
        refine AW.seq ?_
        refine AW.region ?_
        refine AR.cs FX_ok 1 rfl ?_
        refine AR.step rfl rfl rfl (AO.build rfl zp_35 spl_35 rfl ?_)
        refine AR.step rfl rfl rfl (AO.buildSliceF (List.map ApiToken.cells [(ApiToken.mk 5 ([] : Str) 0)]) rfl sf_23 rfl rfl rfl (by first | rfl | simp only [List.map, ApiToken.cells_eq]) ?_)
        obtain ⟨want2, h33, hf⟩ := bind1_inv hf
        refine AR.step rfl rfl rfl (AO.app_own (i := 0) (l := want1) (m := [(ApiToken.mk 5 ([] : Str) 0)]) h33 rfl rfl rfl rfl rfl rfl rfl sf_23 es_23 rfl rfl rfl (ApiToken.cells_len) (ApiToken.cells_one) (by decide) (fun v2 s2 hs2 => ?_))
        cases hs2
        refine AR.cs FX_ok 1 rfl ?_
        refine AR.nil [0, 1, 8, 13] rfl ?_
        refine AW.seq ?_
        refine AW.region ?_
        refine AR.cs FX_ok 2 rfl ?_
        obtain ⟨want3, h34, hf⟩ := bind1_inv hf
        refine AR.step rfl rfl rfl (AO.app_own (i := 0) (l := want2) (m := m1) h34 rfl rfl rfl rfl rfl rfl rfl sf_23 es_23 rfl rfl rfl (ApiToken.cells_len) (ApiToken.cells_one) (by decide) (fun v3 s3 hs3 => ?_))
        cases hs3
        refine AR.cs FX_ok 1 rfl ?_
        refine AR.nil [0, 1, 13] rfl ?_
        refine AW.seq ?_
        refine AW.region ?_
        refine AR.cs FX_ok 1 rfl ?_
        refine AR.step rfl rfl rfl (AO.buildSliceF (List.map byteC ([10] : List UInt8)) rfl sf_37 rfl rfl rfl rfl ?_)
        refine AR.step rfl rfl rfl (AO.bytes_str rfl un_37 un_5 un_9 rfl rfl ?_)
        obtain ⟨x5, h35, hf⟩ := bind1_inv hf
        refine AR.step rfl rfl rfl (AO.catF h35 rfl rfl rfl ?_)
        refine AR.cs FX_ok 1 rfl ?_
        obtain ⟨x6, h36, hf⟩ := bind1_inv hf
        refine AR.step rfl rfl rfl (AO.catF h36 rfl rfl rfl ?_)
        obtain ⟨all1, x7, g1, h37, hf⟩ := bind3_inv hf
        refine AR.step rfl rfl rfl (AO.call rfl _ rfl rfl pf_10 (c_lexer_Tokens _ h37 ?_))
        refine AR.cs FX_ok 7 rfl ?_
        refine AR.nil [13, 14, 16] rfl ?_
        refine AW.seq ?_
        refine AW.region ?_
        refine AR.cs FX_ok 3 rfl ?_
        obtain ⟨b8, h39, hf⟩ := bind1_inv hf
        refine AR.join1 4 142 146 true [] b8 rfl rfl (fun h38 => ?_) (fun h38 => ?_) ?_
        · skip
          replace h39 := ite_T h38 h39
          refine AR.is 142 h38 rfl ?_
          refine AR.cs FX_ok 2 rfl ?_
          replace h39 := (bind1_ret _).trans h39
          obtain ⟨x8, h40, h39⟩ := bind1_inv h39
          refine AR.go rfl rfl rfl rfl rfl rfl (AO.call rfl _ rfl rfl pf_12 (c_r09_Same _ _ _ h40 ?_))
          cases h39
          refine AR.cs FX_ok 1 rfl ?_
          refine AR.nil [146] rfl ?_
          exact ⟨rfl, rfl, rfl, rfl⟩
        · skip
          replace h39 := ite_F h38 h39
          refine AR.is 142 h38 rfl ?_
          cases h39
          refine AR.cs FX_ok 4 rfl ?_
          refine AR.nil [146] rfl ?_
          exact ⟨rfl, rfl, rfl, rfl⟩
        refine AR.cs FX_ok 1 rfl ?_
        replace hf := (bind1_ret _).trans hf
        obtain ⟨b9, h42, hf⟩ := bind1_inv hf
        refine AR.join1 2 147 149 true [] b9 rfl rfl (fun h41 => ?_) (fun h41 => ?_) ?_
        · skip
          replace h42 := ite_T h41 h42
          refine AR.is 147 h41 rfl ?_
          replace h42 := (bind1_ret _).trans h42
          obtain ⟨x9, h43, h42⟩ := bind1_inv h42
          refine AR.go rfl rfl rfl rfl rfl rfl (AO.call rfl _ rfl rfl pf_9 (c_l09_awake  h43 ?_))
          cases h42
          refine AR.cs FX_ok 1 rfl ?_
          refine AR.nil [149] rfl ?_
          exact ⟨rfl, rfl, rfl, rfl⟩
        · skip
          replace h42 := ite_F h41 h42
          refine AR.is 147 h41 rfl ?_
          cases h42
          refine AR.cs FX_ok 2 rfl ?_
          refine AR.nil [149] rfl ?_
          exact ⟨rfl, rfl, rfl, rfl⟩
        refine AR.cs FX_ok 1 rfl ?_
        refine AR.nil [4] rfl ?_
        refine AW.ret ?_
        cases hf
        exact ⟨rfl, _, ⟨_, _, rfl, rfl, rfl⟩, [], List.nil_sublist _, h⟩


end Go.Proofs.Ytfiahdjachcaiaa
