/- Proved here: each function does what its functional text says (part 3). -/
import Derived.Test.YtpgknnldbnmndaaGreatDoorCnWalk2
set_option linter.unusedVariables false
set_option linter.unusedSimpArgs false
namespace Go.Proofs.YtpgknnldbnmndaaGreatDoor
open Go Go.Abs Go.Ft
set_option maxRecDepth 20000
attribute [local irreducible] AO AR AW AC
theorem c_r04_Sorted  (names1 : List Str) {r0 : List Str} (hf : r04_Sorted names1 = some r0) {τ : List Res} {Q : AOut → List Res → Prop} (h : Q (.ret (.list (List.map strC r0))) τ) : AC Tryz.prog 17 [.list (List.map strC names1)] τ Q := by
 unfold r04_Sorted at hf
 refine AC.none (AC.of_body 64 [.tmp 2] [0] Tryz.func17 rfl rfl rfl rfl rfl (AW.sr (cs 1 rfl ?_)))
 refine AR.nil [0] rfl (AW.sr (cs 1 rfl (AR.nil [0, 3] rfl ?_)))
 refine AW.seq (AW.sr (cs 1 rfl (AR.nil [0, 3, 4] rfl ?_)))
 refine AW.block (AW.row 1 9 (AW.settle [0, 3, 4] rfl (AW.loopF3 (fun out1 v1 i1 => [(0, .list (List.map strC names1)), (3, .own v1 (List.map strC out1)), (4, .int .i64 i1)]) (fun out1 v1 i1 => [.row v1 (List.map strC out1).length 1 9]) (fun kk1 out1 v1 i1 => r04_Sorted_l1 names1 kk1 out1 i1 = some r0) BIG [] (.slice none 0 0) 0 rfl rfl hf (fun _ _ _ hz => none_no hz) ?_)))
 intro kk1 out1 v1 i1 hf
 rw [r04_Sorted_l1] at hf
 refine AW.seq (AW.sr (cs 2 rfl (AR.step rfl rfl rfl (AO.len_list (l := names1) rfl rfl rfl rfl es_23 rfl rfl ?_))))
 refine cs 1 rfl (AR.nil [0, 3, 4, 10] rfl (AW.cond rfl (fun h1 => ?_) (fun h1 => ?_)))
 ·
  replace hf := ite_T h1 hf
  refine AW.skip (AW.seq (AW.block (AW.sr ?_)))
  refine cs 1 rfl (AR.step rfl rfl rfl (AO.len_list (l := out1) rfl rfl rfl rfl es_23 rfl rfl (cs 1 rfl (AR.nil [0, 3, 4, 5] rfl ?_))))
  refine AW.seq (AW.block (AW.settle [0, 3, 4, 5] rfl (AW.loopF1 (fun at1 => [(0, .list (List.map strC names1)), (3, .own v1 (List.map strC out1)), (4, .int .i64 i1), (5, .int .i64 at1)]) (fun at1 => [.row v1 (List.map strC out1).length 1 9]) (fun kk2 at1 => r04_Sorted_l2 names1 out1 i1 (r04_Sorted_l1 names1 kk1) kk2 at1 = some r0) BIG (out1.length : Int) rfl rfl hf (fun _ hz => none_no hz) ?_)))
  intro kk2 at1 hf
  rw [r04_Sorted_l2] at hf
  refine AW.seq (AW.seq (AW.draw 15 mixed (by kernel_rfl) rfl ?_))
  refine Ev.cs FX_ok 3 rfl ?_
  obtain ⟨b1, h3, hf⟩ := bind1_inv hf
  refine Ev.join1 hKA 12 17 29 true [0, 3, 4, 5] (.bool b1) rfl rfl (fun h2 => ?_) (fun h2 => ?_) ?_
  ·
   replace h3 := ite_T h2 h3
   refine Ev.is hKL 17 h2 rfl (Ev.cs FX_ok 2 rfl ?_)
   obtain ⟨e1, h4, h3⟩ := bind1_inv h3
   refine Ev.run rfl rfl rfl rfl rfl rfl rfl (AO.idx_list h4 rfl rfl rfl rfl es_23 rfl rfl ⟨rfl, rfl⟩) (Ev.cs FX_ok 4 rfl ?_)
   obtain ⟨e2, h5, h3⟩ := bind1_inv h3
   refine Ev.run rfl rfl rfl rfl rfl rfl rfl (AO.idx_list h5 rfl rfl rfl rfl es_23 rfl rfl ⟨rfl, rfl⟩) (Ev.cs FX_ok 1 rfl ?_)
   obtain ⟨x1, h6, h3⟩ := bind1_inv h3
   refine Ev.run rfl rfl rfl rfl rfl rfl rfl (AO.call rfl _ rfl rfl pf_33 (c_r04_Compare _ _ h6 ⟨rfl, rfl⟩)) (Ev.cs FX_ok 1 rfl ?_)
   obtain rfl := Option.some.inj h3
   refine Ev.cs FX_ok 1 rfl ?_
   exact Ev.nil (Less.settle (ps := [29, 0, 3, 4, 5]) rfl)
  ·
   replace h3 := ite_F h2 h3
   refine Ev.is hKL 17 h2 rfl ?_
   obtain rfl := Option.some.inj h3
   refine Ev.cs FX_ok 12 rfl ?_
   exact Ev.nil (Less.settle (ps := [29, 0, 3, 4, 5]) rfl)
  refine Ev.nil ?_
  show AR _ _ _ _ _ _ _ _
  refine AR.nil [0, 3, 4, 5, 29] rfl (AW.cond rfl (fun h7 => ?_) (fun h7 => ?_))
  ·
   replace hf := ite_T h7 hf
   refine AW.skip (AW.block (AW.region (cs 3 rfl ?_)))
   refine AR.nil [0, 3, 4, 5] rfl ?_
   exact ⟨(w64 (at1 - 1)), rfl, rfl, rfl, hf⟩
  ·
   replace hf := ite_F h7 hf
   refine AW.exit (AW.seq (AW.seq (AW.draw 14 mixed (by kernel_rfl) rfl ?_)))
   refine Ev.cs FX_ok 3 rfl ?_
   obtain ⟨b2, h9, hf⟩ := bind1_inv hf
   refine Ev.join1 hKA 11 34 45 true [0, 3, 4, 5] (.bool b2) rfl rfl (fun h8 => ?_) (fun h8 => ?_) ?_
   ·
    replace h9 := ite_T h8 h9
    refine Ev.is hKL 34 h8 rfl (Ev.cs FX_ok 3 rfl ?_)
    obtain ⟨e3, h10, h9⟩ := bind1_inv h9
    refine Ev.run rfl rfl rfl rfl rfl rfl rfl (AO.idx_list h10 rfl rfl rfl rfl es_23 rfl rfl ⟨rfl, rfl⟩) (Ev.cs FX_ok 3 rfl ?_)
    obtain ⟨e4, h11, h9⟩ := bind1_inv h9
    refine Ev.run rfl rfl rfl rfl rfl rfl rfl (AO.idx_list h11 rfl rfl rfl rfl es_23 rfl rfl ⟨rfl, rfl⟩) (Ev.cs FX_ok 2 rfl ?_)
    obtain rfl := Option.some.inj h9
    refine Ev.cs FX_ok 1 rfl ?_
    exact Ev.nil (Less.settle (ps := [45, 0, 3, 4, 5]) rfl)
   ·
    replace h9 := ite_F h8 h9
    refine Ev.is hKL 34 h8 rfl ?_
    obtain rfl := Option.some.inj h9
    refine Ev.cs FX_ok 11 rfl ?_
    exact Ev.nil (Less.settle (ps := [45, 0, 3, 4, 5]) rfl)
   refine Ev.nil ?_
   show AR _ _ _ _ _ _ _ _
   refine AR.nil [0, 3, 4, 5, 45] rfl (AW.cond rfl (fun h12 => ?_) (fun h12 => ?_))
   ·
    replace hf := ite_T h12 hf
    refine AW.exit (AW.region (cs 3 rfl (AR.nil [0, 3, 4] rfl ?_)))
    exact ⟨out1, v1, (w64 (i1 + 1)), rfl, rfl, rfl, hf⟩
   ·
    replace hf := ite_F h12 hf
    refine AW.skip (AW.sr (AR.step rfl rfl rfl (AO.buildSlice_ownF [] rfl sf_23 rfl rfl rfl rfl rfl (fun v2 => (cs 2 rfl ?_)))))
    obtain ⟨x2, h13, hf⟩ := bind1_inv hf
    refine AR.step rfl rfl rfl (AO.sl_list h13 rfl es_23 rfl rfl rfl (fun _ => rfl) rfl ⟨_, rfl⟩ ?_)
    obtain ⟨next1, h14, hf⟩ := bind1_inv hf
    refine AR.step rfl rfl rfl (AO.app_own (i := 0) (l := []) (m := x2) h14 rfl rfl rfl rfl rfl rfl rfl sf_23 es_23 rfl rfl rfl (fun _ => rfl) (fun _ => rfl) (by decide) (fun v3 s1 hs1 => ?_))
    cases hs1
    refine cs 1 rfl (AR.nil [0, 3, 4, 5, 6] rfl (AW.sr (cs 3 rfl ?_)))
    obtain ⟨e5, h15, hf⟩ := bind1_inv hf
    refine AR.step rfl rfl rfl (AO.idx_list h15 rfl rfl rfl rfl es_23 rfl rfl (cs 1 rfl (AR.step rfl rfl rfl (AO.buildSliceF (List.map strC ([e5] : List Str)) rfl sf_23 rfl rfl rfl rfl ?_))))
    obtain ⟨next2, h16, hf⟩ := bind1_inv hf
    refine AR.step rfl rfl rfl (AO.app_own (i := 0) (l := next1) (m := ([e5] : List Str)) h16 rfl rfl rfl rfl rfl rfl rfl sf_23 es_23 rfl rfl rfl (fun _ => rfl) (fun _ => rfl) (by decide) (fun v4 s2 hs2 => ?_))
    cases hs2
    refine cs 1 rfl (AR.nil [0, 3, 4, 5, 6] rfl (AW.region (cs 3 rfl ?_)))
    obtain ⟨x3, h17, hf⟩ := bind1_inv hf
    refine AR.step rfl rfl rfl (AO.sl_list h17 rfl es_23 rfl rfl rfl (fun _ => rfl) ⟨_, rfl⟩ rfl ?_)
    obtain ⟨out2, h18, hf⟩ := bind1_inv hf
    refine AR.step rfl rfl rfl (AO.app_own (i := 0) (l := next2) (m := x3) h18 rfl rfl rfl rfl rfl rfl rfl sf_23 es_23 rfl rfl rfl (fun _ => rfl) (fun _ => rfl) (by decide) (fun v5 s3 hs3 => ?_))
    cases hs3
    refine cs 1 rfl (AR.nil [0, 3, 4] rfl (AW.region (cs 3 rfl ?_)))
    refine AR.dropAt 1 rfl (AR.nil [0, 3, 4] rfl ?_)
    exact ⟨out2, v5, (w64 (i1 + 1)), rfl, rfl, rfl, hf⟩
 ·
  replace hf := ite_F h1 hf
  refine AW.exit (AW.sr (cs 2 rfl (AR.nil [2] rfl ?_)))
  refine AW.ret ?_
  cases hf
  exact ⟨rfl, _, ⟨_, _, rfl, rfl, rfl⟩, [], List.nil_sublist _, h⟩

theorem c_r11_Names  (e1 : ApiExpr) {r0 : List Str} (hf : r11_Names e1 = some r0) {τ : List Res} {Q : AOut → List Res → Prop} (h : Q (.ret (.list (List.map strC r0))) τ) : AC Tryz.prog 8 [.agg [.int .i64 e1.kind, .str e1.name, .int .i64 e1.value.kind, .bool e1.value.bool_, .int .i64 e1.value.int_, .str e1.value.str_, .list (ApiValue.cellsL e1.value.list_), .list (List.map strC e1.value.keys), .list (ApiExpr.cellsL e1.args), .list (List.map strC e1.keys)]] τ Q := by
 unfold r11_Names at hf
 refine AC.none (AC.of_body 6 [.tmp 2] [0] Tryz.func8 rfl rfl rfl rfl rfl (AW.sr (AR.step rfl rfl rfl (AO.box_ref rfl rfl rfl ?_))))
 refine AR.step rfl rfl rfl (AO.nil_list rfl rfl (AR.nil [1] rfl (AW.sr (cs 1 rfl ?_))))
 obtain ⟨x1, h1, hf⟩ := bind1_inv hf
 refine AR.step rfl rfl rfl (AO.call rfl _ rfl rfl pf_18 (c_r11_names _ h1 ?_))
 replace hf := (bind1_ret _).trans hf
 obtain ⟨x2, h2, hf⟩ := bind1_inv hf
 refine AR.step rfl rfl rfl (AO.call rfl _ rfl rfl pf_17 (c_r04_Sorted _ h2 (cs 1 rfl (AR.nil [2] rfl (AW.ret ?_)))))
 cases hf
 exact ⟨rfl, _, ⟨_, _, rfl, rfl, rfl⟩, [], List.nil_sublist _, h⟩

theorem c_r09_letter  (c1 : UInt8) {r0 : Bool} (hf : r09_letter c1 = some r0) {τ : List Res} {Q : AOut → List Res → Prop} (h : Q (.ret (.bool r0)) τ) : AC Tryz.prog 67 [.int .u8 (c1.toNat : Int)] τ Q := by
 unfold r09_letter at hf
 refine AC.none (AC.of_body 21 [.tmp 2] [0] Tryz.func67 rfl rfl rfl rfl rfl (AW.sr (cs 1 rfl ?_)))
 refine AR.nil [0] rfl (AW.sr (cs 3 rfl (AR.and 3 5 8 [0] (x := (decide ((c1.toNat : Int) ≤ 122))) rfl rfl (fun h1 => ?_) (fun h1 => ?_) ?_)))
 ·
  refine AR.is 5 h1 rfl (cs 3 rfl (AR.nil [8, 0] rfl ?_))
  exact ⟨rfl, rfl, rfl, rfl⟩
 ·
  refine AR.is 5 h1 rfl (cs 3 rfl (AR.nil [8, 0] rfl ?_))
  exact ⟨rfl, rfl, rfl, rfl⟩
 refine cs 1 rfl (AR.or 7 9 16 [0] (x := ((decide (65 ≤ (c1.toNat : Int))) && (decide ((c1.toNat : Int) ≤ 90)))) rfl rfl (fun h2 => ?_) (fun h2 => ?_) ?_)
 ·
  refine AR.is 9 h2 rfl (cs 3 rfl (AR.and 3 12 15 [0, 9] (x := (decide ((c1.toNat : Int) ≤ 90))) rfl rfl (fun h3 => ?_) (fun h3 => ?_) ?_))
  ·
   refine AR.is 12 h3 rfl (cs 3 rfl (AR.nil [15, 0, 9] rfl ?_))
   exact ⟨rfl, rfl, rfl, rfl⟩
  ·
   refine AR.is 12 h3 rfl (cs 3 rfl (AR.nil [15, 0, 9] rfl ?_))
   exact ⟨rfl, rfl, rfl, rfl⟩
  refine cs 1 rfl (AR.nil [16, 0] rfl ?_)
  exact ⟨rfl, rfl, rfl, rfl⟩
 ·
  refine AR.is 9 h2 rfl (cs 7 rfl (AR.nil [16, 0] rfl ?_))
  exact ⟨rfl, rfl, rfl, rfl⟩
 refine cs 1 rfl (AR.or 3 17 20 [] (x := ((c1.toNat : Int) == 95)) rfl rfl (fun h4 => ?_) (fun h4 => ?_) ?_)
 ·
  refine AR.is 17 h4 rfl (cs 3 rfl (AR.nil [20] rfl ?_))
  exact ⟨rfl, rfl, rfl, rfl⟩
 ·
  refine AR.is 17 h4 rfl (cs 3 rfl (AR.nil [20] rfl ?_))
  exact ⟨rfl, rfl, rfl, rfl⟩
 refine cs 1 rfl (AR.nil [2] rfl (AW.ret ?_))
 cases hf
 exact ⟨rfl, _, ⟨_, _, rfl, rfl, rfl⟩, [], List.nil_sublist _, h⟩

theorem c_r09_digit  (c1 : UInt8) {r0 : Bool} (hf : r09_digit c1 = some r0) {τ : List Res} {Q : AOut → List Res → Prop} (h : Q (.ret (.bool r0)) τ) : AC Tryz.prog 68 [.int .u8 (c1.toNat : Int)] τ Q := by
 unfold r09_digit at hf
 refine AC.none (AC.of_body 9 [.tmp 2] [0] Tryz.func68 rfl rfl rfl rfl rfl (AW.sr (cs 1 rfl ?_)))
 refine AR.nil [0] rfl (AW.sr (cs 3 rfl (AR.and 3 5 8 [] (x := (decide ((c1.toNat : Int) ≤ 57))) rfl rfl (fun h1 => ?_) (fun h1 => ?_) ?_)))
 ·
  refine AR.is 5 h1 rfl (cs 3 rfl (AR.nil [8] rfl ?_))
  exact ⟨rfl, rfl, rfl, rfl⟩
 ·
  refine AR.is 5 h1 rfl (cs 3 rfl (AR.nil [8] rfl ?_))
  exact ⟨rfl, rfl, rfl, rfl⟩
 refine cs 1 rfl (AR.nil [2] rfl (AW.ret ?_))
 cases hf
 exact ⟨rfl, _, ⟨_, _, rfl, rfl, rfl⟩, [], List.nil_sublist _, h⟩

theorem c_r09_Name  (s1 : Str) {r0 : Bool} (hf : r09_Name s1 = some r0) {τ : List Res} {Q : AOut → List Res → Prop} (h : Q (.ret (.bool r0)) τ) : AC Tryz.prog 38 [.str s1] τ Q := by
 unfold r09_Name at hf
 refine AC.none (AC.of_body 34 [.tmp 2] [0] Tryz.func38 rfl rfl rfl rfl rfl (AW.sr (cs 1 rfl ?_)))
 refine AR.nil [0] rfl (AW.seq (AW.sr (cs 1 rfl ?_)))
 refine AR.nil [0, 3] rfl (AW.block (AW.settle [0, 3] rfl (AW.loopF1 (fun i1 => [(0, .str s1), (3, .int .i64 i1)]) (fun i1 => []) (fun kk1 i1 => r09_Name_l1 s1 kk1 i1 = some r0) BIG 0 rfl rfl hf (fun _ hz => none_no hz) ?_)))
 intro kk1 i1 hf
 rw [r09_Name_l1] at hf
 refine AW.seq (AW.sr (cs 2 rfl (AR.step rfl rfl rfl (AO.len_str rfl rfl rfl rfl un_9 rfl ?_))))
 refine cs 1 rfl (AR.nil [0, 3, 7] rfl (AW.cond rfl (fun h1 => ?_) (fun h1 => ?_)))
 ·
  replace hf := ite_T h1 hf
  refine AW.skip (AW.seq (AW.block (AW.sr ?_)))
  refine cs 2 rfl ?_
  obtain ⟨x1, h2, hf⟩ := bind1_inv hf
  refine AR.step rfl rfl rfl (AO.idx_str h2 rfl un_9 rfl rfl ?_)
  obtain ⟨x2, h3, hf⟩ := bind1_inv hf
  refine AR.step rfl rfl rfl (AO.call rfl _ rfl rfl pf_67 (c_r09_letter _ h3 (cs 2 rfl ?_)))
  obtain ⟨b1, h5, hf⟩ := bind1_inv hf
  refine AR.join1 10 15 25 true [0, 3] b1 rfl rfl (fun h4 => ?_) (fun h4 => ?_) ?_
  ·
   replace h5 := ite_T h4 h5
   refine AR.is 15 h4 rfl (cs 3 rfl ?_)
   replace h5 := (bind1_ret _).trans h5
   obtain ⟨b2, h7, h5⟩ := bind1_inv h5
   refine AR.join1 6 18 24 false [0, 3, 15] b2 rfl rfl (fun h6 => ?_) (fun h6 => ?_) ?_
   ·
    replace h7 := ite_F h6 h7
    refine AR.is 18 h6 rfl (cs 2 rfl ?_)
    obtain ⟨x3, h8, h7⟩ := bind1_inv h7
    refine AR.go rfl rfl rfl rfl rfl rfl (AO.idx_str h8 rfl un_9 rfl rfl ?_)
    obtain ⟨x4, h9, h7⟩ := bind1_inv h7
    refine AR.go rfl rfl rfl rfl rfl rfl (AO.call rfl _ rfl rfl pf_68 (c_r09_digit _ h9 (cs 1 rfl ?_)))
    obtain rfl := Option.some.inj h7
    refine cs 1 rfl (AR.nil [24, 0, 3, 15] rfl ?_)
    exact ⟨rfl, rfl, rfl, rfl⟩
   ·
    replace h7 := ite_T h6 h7
    refine AR.is 18 h6 rfl ?_
    obtain rfl := Option.some.inj h7
    refine cs 6 rfl (AR.nil [24, 0, 3, 15] rfl ?_)
    exact ⟨rfl, rfl, rfl, rfl⟩
   obtain rfl := Option.some.inj h5
   refine cs 1 rfl (AR.nil [25, 0, 3] rfl ?_)
   exact ⟨rfl, rfl, rfl, rfl⟩
  ·
   replace h5 := ite_F h4 h5
   refine AR.is 15 h4 rfl ?_
   obtain rfl := Option.some.inj h5
   refine cs 10 rfl (AR.nil [25, 0, 3] rfl ?_)
   exact ⟨rfl, rfl, rfl, rfl⟩
  refine AR.nil [0, 3, 25] rfl (AW.cond rfl (fun h10 => ?_) (fun h10 => ?_))
  ·
   replace hf := ite_T h10 hf
   refine AW.sr (cs 1 rfl (AR.nil [2] rfl (AW.ret ?_)))
   cases hf
   exact ⟨rfl, _, ⟨_, _, rfl, rfl, rfl⟩, [], List.nil_sublist _, h⟩
  ·
   replace hf := ite_F h10 hf
   refine AW.skip (AW.region (cs 3 rfl (AR.nil [0, 3] rfl ?_)))
   exact ⟨(w64 (i1 + 1)), rfl, rfl, rfl, hf⟩
 ·
  replace hf := ite_F h1 hf
  refine AW.exit (AW.sr (cs 1 rfl (AR.step rfl rfl rfl (AO.len_str rfl rfl rfl rfl un_9 rfl ?_))))
  refine cs 2 rfl (AR.and 4 29 33 [] (x := (decide ((s1.length : Int) ≤ 64))) rfl rfl (fun h11 => ?_) (fun h11 => ?_) ?_)
  ·
   refine AR.is 29 h11 rfl (cs 1 rfl (AR.go rfl rfl rfl rfl rfl rfl (AO.len_str rfl rfl rfl rfl un_9 rfl (cs 2 rfl ?_))))
   refine AR.nil [33] rfl ?_
   exact ⟨rfl, rfl, rfl, rfl⟩
  ·
   refine AR.is 29 h11 rfl (cs 4 rfl (AR.nil [33] rfl ?_))
   exact ⟨rfl, rfl, rfl, rfl⟩
  refine cs 1 rfl (AR.nil [2] rfl (AW.ret ?_))
  cases hf
  exact ⟨rfl, _, ⟨_, _, rfl, rfl, rfl⟩, [], List.nil_sublist _, h⟩

theorem c_r10_Plain  (s1 : Str) {r0 : Bool} (hf : r10_Plain s1 = some r0) {τ : List Res} {Q : AOut → List Res → Prop} (h : Q (.ret (.bool r0)) τ) : AC Tryz.prog 21 [.str s1] τ Q := by
 unfold r10_Plain at hf
 refine AC.none (AC.of_body 17 [.tmp 2] [0] Tryz.func21 rfl rfl rfl rfl rfl (AW.sr (cs 1 rfl ?_)))
 refine AR.nil [0] rfl (AW.sr (cs 1 rfl ?_))
 obtain ⟨x1, h1, hf⟩ := bind1_inv hf
 refine AR.step rfl rfl rfl (AO.call rfl _ rfl rfl pf_38 (c_r09_Name _ h1 (cs 1 rfl (AR.and 3 5 8 [0] (x := (!(s1 == ([116, 114, 117, 101] : Str)))) rfl rfl (fun h2 => ?_) (fun h2 => ?_) ?_))))
 ·
  refine AR.is 5 h2 rfl (cs 3 rfl (AR.nil [8, 0] rfl ?_))
  exact ⟨rfl, rfl, rfl, rfl⟩
 ·
  refine AR.is 5 h2 rfl (cs 3 rfl (AR.nil [8, 0] rfl ?_))
  exact ⟨rfl, rfl, rfl, rfl⟩
 refine cs 1 rfl (AR.and 3 9 12 [0] (x := (!(s1 == ([102, 97, 108, 115, 101] : Str)))) rfl rfl (fun h3 => ?_) (fun h3 => ?_) ?_)
 ·
  refine AR.is 9 h3 rfl (cs 3 rfl (AR.nil [12, 0] rfl ?_))
  exact ⟨rfl, rfl, rfl, rfl⟩
 ·
  refine AR.is 9 h3 rfl (cs 3 rfl (AR.nil [12, 0] rfl ?_))
  exact ⟨rfl, rfl, rfl, rfl⟩
 refine cs 1 rfl (AR.and 3 13 16 [] (x := (!(s1 == ([110, 117, 108, 108] : Str)))) rfl rfl (fun h4 => ?_) (fun h4 => ?_) ?_)
 ·
  refine AR.is 13 h4 rfl (cs 3 rfl (AR.nil [16] rfl ?_))
  exact ⟨rfl, rfl, rfl, rfl⟩
 ·
  refine AR.is 13 h4 rfl (cs 3 rfl (AR.nil [16] rfl ?_))
  exact ⟨rfl, rfl, rfl, rfl⟩
 refine cs 1 rfl (AR.nil [2] rfl (AW.ret ?_))
 cases hf
 exact ⟨rfl, _, ⟨_, _, rfl, rfl, rfl⟩, [], List.nil_sublist _, h⟩

theorem c_r08_holds  (kind1 : Int) {r0 : Bool} (hf : r08_holds kind1 = some r0) {τ : List Res} {Q : AOut → List Res → Prop} (h : Q (.ret (.bool r0)) τ) : AC Tryz.prog 69 [.int .i64 kind1] τ Q := by
 unfold r08_holds at hf
 refine AC.none (AC.of_body 9 [.tmp 2] [0] Tryz.func69 rfl rfl rfl rfl rfl (AW.sr (cs 1 rfl ?_)))
 refine AR.nil [0] rfl (AW.sr (cs 3 rfl (AR.or 3 5 8 [] (x := (kind1 == 6)) rfl rfl (fun h1 => ?_) (fun h1 => ?_) ?_)))
 ·
  refine AR.is 5 h1 rfl (cs 3 rfl (AR.nil [8] rfl ?_))
  exact ⟨rfl, rfl, rfl, rfl⟩
 ·
  refine AR.is 5 h1 rfl (cs 3 rfl (AR.nil [8] rfl ?_))
  exact ⟨rfl, rfl, rfl, rfl⟩
 refine cs 1 rfl (AR.nil [2] rfl (AW.ret ?_))
 cases hf
 exact ⟨rfl, _, ⟨_, _, rfl, rfl, rfl⟩, [], List.nil_sublist _, h⟩

theorem w_r08_check (go_r08_check : ApiType → Int → Option Int) (go_r08_checkH : ∀ (ut1 : ApiType) (ulevel1 : Int) {urr1x0 : Int}, go_r08_check ut1 ulevel1 = some urr1x0 → ∀ {τ : List Res} {Q : AOut → List Res → Prop} (h : Q (.ret (.int .i64 urr1x0)) τ), AC Tryz.prog 39 [.agg [.int .i64 ut1.kind, .list (ApiType.cellsL ut1.elem)], .int .i64 ulevel1] τ Q) (t1 : ApiType) (level1 : Int) {r0 : Int} (hf : r08_check_b go_r08_check t1 level1 = some r0) {τ : List Res} {Q : AOut → List Res → Prop} (h : Q (.ret (.int .i64 r0)) τ) : AC Tryz.prog 39 [.agg [.int .i64 t1.kind, .list (ApiType.cellsL t1.elem)], .int .i64 level1] τ Q := by
 unfold r08_check_b at hf
 refine AC.none (AC.of_body 34 [.tmp 4] [0, 1] Tryz.func39 rfl rfl rfl rfl rfl (AW.sr (AR.step rfl rfl rfl (AO.box_ref rfl rfl rfl ?_))))
 refine cs 1 rfl (AR.nil [1, 2] rfl (AW.seq (AW.sr ?_)))
 refine cs 2 rfl (AR.nil [1, 2, 6] rfl (AW.cond rfl (fun h1 => ?_) (fun h1 => ?_)))
 ·
  replace hf := ite_T h1 hf
  refine AW.sr (cs 1 rfl (AR.nil [4] rfl (AW.ret ?_)))
  cases hf
  exact ⟨rfl, _, ⟨_, _, rfl, rfl, rfl⟩, [], List.nil_sublist _, h⟩
 ·
  replace hf := ite_F h1 hf
  refine AW.skip (AW.seq (AW.sr (cs 4 rfl ?_)))
  refine AR.or 4 10 14 [1, 2] (x := (decide (7 < t1.kind))) rfl rfl (fun h2 => ?_) (fun h2 => ?_) ?_
  ·
   refine AR.is 10 h2 rfl (cs 4 rfl (AR.nil [14, 1, 2] rfl ?_))
   exact ⟨rfl, rfl, rfl, rfl⟩
  ·
   refine AR.is 10 h2 rfl (cs 4 rfl (AR.nil [14, 1, 2] rfl ?_))
   exact ⟨rfl, rfl, rfl, rfl⟩
  refine AR.nil [1, 2, 14] rfl (AW.cond rfl (fun h3 => ?_) (fun h3 => ?_))
  ·
   replace hf := ite_T h3 hf
   refine AW.sr (cs 1 rfl (AR.nil [4] rfl (AW.ret ?_)))
   cases hf
   exact ⟨rfl, _, ⟨_, _, rfl, rfl, rfl⟩, [], List.nil_sublist _, h⟩
  ·
   replace hf := ite_F h3 hf
   refine AW.skip (AW.seq (AW.sr (cs 2 rfl ?_)))
   obtain ⟨x1, h4, hf⟩ := bind1_inv hf
   refine AR.step rfl rfl rfl (AO.call rfl _ rfl rfl pf_69 (c_r08_holds _ h4 (cs 1 rfl (AR.nil [1, 2, 18] rfl (AW.cond rfl (fun h5 => ?_) (fun h5 => ?_))))))
   ·
    replace hf := ite_T h5 hf
    refine AW.seq (AW.sr (cs 2 rfl (AR.step rfl rfl rfl (AO.len_list (l := t1.elem) rfl rfl rfl rfl es_37 rfl (ApiType.cellsL_eq _) ?_))))
    refine cs 1 rfl (AR.nil [22] rfl (AW.cond rfl (fun h6 => ?_) (fun h6 => ?_)))
    ·
     replace hf := ite_T h6 hf
     refine AW.sr (cs 1 rfl (AR.nil [4] rfl (AW.ret ?_)))
     cases hf
     exact ⟨rfl, _, ⟨_, _, rfl, rfl, rfl⟩, [], List.nil_sublist _, h⟩
    ·
     replace hf := ite_F h6 hf
     refine AW.skip (AW.sr (cs 1 rfl (AR.nil [4] rfl ?_)))
     refine AW.ret ?_
     cases hf
     exact ⟨rfl, _, ⟨_, _, rfl, rfl, rfl⟩, [], List.nil_sublist _, h⟩
   ·
    replace hf := ite_F h5 hf
    refine AW.skip (AW.seq (AW.sr (cs 2 rfl ?_)))
    refine AR.step rfl rfl rfl (AO.len_list (l := t1.elem) rfl rfl rfl rfl es_37 rfl (ApiType.cellsL_eq _) (cs 1 rfl (AR.nil [1, 2, 26] rfl (AW.cond rfl (fun h7 => ?_) (fun h7 => ?_)))))
    ·
     replace hf := ite_T h7 hf
     refine AW.sr (cs 1 rfl (AR.nil [4] rfl (AW.ret ?_)))
     cases hf
     exact ⟨rfl, _, ⟨_, _, rfl, rfl, rfl⟩, [], List.nil_sublist _, h⟩
    ·
     replace hf := ite_F h7 hf
     refine AW.skip (AW.sr (cs 2 rfl ?_))
     obtain ⟨e1, h8, hf⟩ := bind1_inv hf
     refine AR.step rfl rfl rfl (AO.idx_list h8 rfl rfl (ApiType.cellsL_eq _) rfl es_37 (ApiType.cells_eq _) rfl (cs 3 rfl ?_))
     replace hf := (bind1_ret _).trans hf
     obtain ⟨x2, h9, hf⟩ := bind1_inv hf
     refine AR.step rfl rfl rfl (AO.call rfl _ rfl rfl pf_39 (go_r08_checkH _ _ h9 (cs 1 rfl (AR.nil [4] rfl (AW.ret ?_)))))
     cases hf
     exact ⟨rfl, _, ⟨_, _, rfl, rfl, rfl⟩, [], List.nil_sublist _, h⟩

theorem n_r08_check : ∀ k : Nat, (∀ (ut1 : ApiType) (ulevel1 : Int) {urr1x0 : Int}, r08_check_n k ut1 ulevel1 = some urr1x0 → ∀ {τ : List Res} {Q : AOut → List Res → Prop} (h : Q (.ret (.int .i64 urr1x0)) τ), AC Tryz.prog 39 [.agg [.int .i64 ut1.kind, .list (ApiType.cellsL ut1.elem)], .int .i64 ulevel1] τ Q) := by
 intro k
 induction k with
 | zero => exact fun _ _ _ hz => by first | cases hz | (unfold r08_check_n at hz; cases hz)
 | succ k ih => exact fun ut1 ulevel1 urr1x0 hz τ Q hq => w_r08_check (r08_check_n k) ih ut1 ulevel1 hz hq
theorem c_r08_check (ut1 : ApiType) (ulevel1 : Int) {urr1x0 : Int} (hf : r08_check ut1 ulevel1 = some urr1x0) {τ : List Res} {Q : AOut → List Res → Prop} (h : Q (.ret (.int .i64 urr1x0)) τ) : AC Tryz.prog 39 [.agg [.int .i64 ut1.kind, .list (ApiType.cellsL ut1.elem)], .int .i64 ulevel1] τ Q :=
 ((n_r08_check BIG)) ut1 ulevel1 hf h

theorem c_r08_Valid  (t1 : ApiType) {r0 : Int} (hf : r08_Valid t1 = some r0) {τ : List Res} {Q : AOut → List Res → Prop} (h : Q (.ret (.int .i64 r0)) τ) : AC Tryz.prog 22 [.agg [.int .i64 t1.kind, .list (ApiType.cellsL t1.elem)]] τ Q := by
 unfold r08_Valid at hf
 refine AC.none (AC.of_body 5 [.tmp 2] [0] Tryz.func22 rfl rfl rfl rfl rfl (AW.sr (AR.step rfl rfl rfl (AO.box_ref rfl rfl rfl ?_))))
 refine cs 1 rfl (AR.nil [1] rfl (AW.sr (cs 1 rfl ?_)))
 replace hf := (bind1_ret _).trans hf
 obtain ⟨x1, h1, hf⟩ := bind1_inv hf
 refine AR.step rfl rfl rfl (AO.call rfl _ rfl rfl pf_39 (c_r08_check _ _ h1 (cs 1 rfl (AR.nil [2] rfl (AW.ret ?_)))))
 cases hf
 exact ⟨rfl, _, ⟨_, _, rfl, rfl, rfl⟩, [], List.nil_sublist _, h⟩

theorem c_r11_Env  (env1 : List ApiDecl) {r0 : Int} (hf : r11_Env env1 = some r0) {τ : List Res} {Q : AOut → List Res → Prop} (h : Q (.ret (.int .i64 r0)) τ) : AC Tryz.prog 10 [.list (List.map ApiDecl.cells env1)] τ Q := by
 unfold r11_Env at hf
 refine AC.none (AC.of_body 47 [.tmp 2] [0] Tryz.func10 rfl rfl rfl rfl rfl (AW.sr (cs 1 rfl ?_)))
 refine AR.nil [0] rfl (AW.seq (AW.sr (cs 1 rfl ?_)))
 refine AR.step rfl rfl rfl (AO.len_list (l := env1) rfl rfl rfl rfl es_29 rfl rfl (cs 1 rfl (AR.nil [0, 8] rfl (AW.cond rfl (fun h1 => ?_) (fun h1 => ?_)))))
 ·
  replace hf := ite_T h1 hf
  refine AW.sr (cs 1 rfl (AR.nil [2] rfl (AW.ret ?_)))
  cases hf
  exact ⟨rfl, _, ⟨_, _, rfl, rfl, rfl⟩, [], List.nil_sublist _, h⟩
 ·
  replace hf := ite_F h1 hf
  refine AW.skip (AW.seq (AW.sr (cs 1 rfl ?_)))
  refine AR.nil [0, 3] rfl (AW.block (AW.settle [0, 3] rfl (AW.loopF1 (fun i1 => [(0, .list (List.map ApiDecl.cells env1)), (3, .int .i64 i1)]) (fun i1 => []) (fun kk1 i1 => r11_Env_l1 env1 kk1 i1 = some r0) BIG 0 rfl rfl hf (fun _ hz => none_no hz) ?_)))
  intro kk1 i1 hf
  rw [r11_Env_l1] at hf
  refine AW.seq (AW.sr (cs 2 rfl (AR.step rfl rfl rfl (AO.len_list (l := env1) rfl rfl rfl rfl es_29 rfl rfl ?_))))
  refine cs 1 rfl (AR.nil [0, 3, 12] rfl (AW.cond rfl (fun h2 => ?_) (fun h2 => ?_)))
  ·
   replace hf := ite_T h2 hf
   refine AW.skip (AW.seq (AW.block (AW.seq ?_)))
   refine AW.sr (cs 2 rfl ?_)
   obtain ⟨e1, h3, hf⟩ := bind1_inv hf
   refine AR.step rfl rfl rfl (AO.idx_list h3 rfl rfl rfl rfl es_29 (ApiDecl.cells_eq _) rfl (cs 2 rfl ?_))
   obtain ⟨x1, h4, hf⟩ := bind1_inv hf
   refine AR.step rfl rfl rfl (AO.call rfl _ rfl rfl pf_21 (c_r10_Plain _ h4 (cs 1 rfl (AR.nil [0, 3, 21] rfl (AW.cond rfl (fun h5 => ?_) (fun h5 => ?_))))))
   ·
    replace hf := ite_T h5 hf
    refine AW.sr (cs 1 rfl (AR.nil [2] rfl (AW.ret ?_)))
    cases hf
    exact ⟨rfl, _, ⟨_, _, rfl, rfl, rfl⟩, [], List.nil_sublist _, h⟩
   ·
    replace hf := ite_F h5 hf
    refine AW.skip (AW.seq (AW.sr (cs 2 rfl ?_)))
    obtain ⟨e2, h6, hf⟩ := bind1_inv hf
    refine AR.step rfl rfl rfl (AO.idx_list h6 rfl rfl rfl rfl es_29 (ApiDecl.cells_eq _) rfl (cs 2 rfl ?_))
    obtain ⟨e3, h7, hf⟩ := bind1_inv hf
    refine AR.step rfl rfl rfl (AO.call rfl _ rfl rfl pf_22 (c_r08_Valid _ h7 (cs 1 rfl (AR.nil [0, 3, 4] rfl (AW.sr ?_)))))
    refine cs 2 rfl (AR.nil [0, 3, 4, 29] rfl (AW.cond rfl (fun h8 => ?_) (fun h8 => ?_)))
    ·
     replace hf := ite_T h8 hf
     refine AW.sr (cs 2 rfl (AR.nil [2] rfl (AW.ret ?_)))
     cases hf
     exact ⟨rfl, _, ⟨_, _, rfl, rfl, rfl⟩, [], List.nil_sublist _, h⟩
    ·
     replace hf := ite_F h8 hf
     refine AW.skip (AW.sr (cs 1 rfl (AR.nil [0, 3, 5] rfl ?_)))
     refine AW.block (AW.settle [0, 3, 5] rfl (AW.loopF1 (fun kx1 => [(0, .list (List.map ApiDecl.cells env1)), (3, .int .i64 i1), (5, .int .i64 kx1)]) (fun kx1 => []) (fun kk2 kx1 => r11_Env_l2 env1 i1 (r11_Env_l1 env1 kk1) kk2 kx1 = some r0) BIG 0 rfl rfl hf (fun _ hz => none_no hz) ?_))
     intro kk2 kx1 hf
     rw [r11_Env_l2] at hf
     refine AW.seq (AW.sr (cs 3 rfl (AR.nil [0, 3, 5, 33] rfl ?_)))
     refine AW.cond rfl (fun h9 => ?_) (fun h9 => ?_)
     ·
      replace hf := ite_T h9 hf
      refine AW.skip (AW.seq (AW.block (AW.seq ?_)))
      refine AW.draw 11 mixed (by kernel_rfl) rfl ?_
      refine Ev.cs FX_ok 2 rfl ?_
      obtain ⟨e4, h10, hf⟩ := bind1_inv hf
      refine Ev.cons rfl rfl rfl (AO.idx_list h10 rfl rfl rfl rfl es_29 (ApiDecl.cells_eq _) rfl ⟨rfl, rfl⟩) (Ev.cs FX_ok 4 rfl ?_)
      obtain ⟨e5, h11, hf⟩ := bind1_inv hf
      refine Ev.cons rfl rfl rfl (AO.idx_list h11 rfl rfl rfl rfl es_29 (ApiDecl.cells_eq _) rfl ⟨rfl, rfl⟩) (Ev.cs FX_ok 3 rfl (Ev.nil ?_))
      show AR _ _ _ _ _ _ _ _
      refine AR.nil [0, 3, 5, 46] rfl (AW.cond rfl (fun h12 => ?_) (fun h12 => ?_))
      ·
       replace hf := ite_T h12 hf
       refine AW.sr (cs 1 rfl (AR.nil [2] rfl (AW.ret ?_)))
       cases hf
       exact ⟨rfl, _, ⟨_, _, rfl, rfl, rfl⟩, [], List.nil_sublist _, h⟩
      ·
       replace hf := ite_F h12 hf
       refine AW.skip (AW.region (cs 3 rfl (AR.nil [0, 3, 5] rfl ?_)))
       exact ⟨(w64 (kx1 + 1)), rfl, rfl, rfl, hf⟩
     ·
      replace hf := ite_F h9 hf
      refine AW.exit (AW.region (cs 3 rfl (AR.nil [0, 3] rfl ?_)))
      exact ⟨(w64 (i1 + 1)), rfl, rfl, rfl, hf⟩
  ·
   replace hf := ite_F h2 hf
   refine AW.exit (AW.sr (cs 1 rfl (AR.nil [2] rfl ?_)))
   refine AW.ret ?_
   cases hf
   exact ⟨rfl, _, ⟨_, _, rfl, rfl, rfl⟩, [], List.nil_sublist _, h⟩

theorem c_l11_CheckNames  (e1 : ApiExpr) (env1 : List ApiDecl) {r0 : Bool} (hf : l11_CheckNames e1 env1 = some r0) {τ : List Res} {Q : AOut → List Res → Prop} (h : Q (.ret (.bool r0)) τ) : AC Tryz.prog 3 [.agg [.int .i64 e1.kind, .str e1.name, .int .i64 e1.value.kind, .bool e1.value.bool_, .int .i64 e1.value.int_, .str e1.value.str_, .list (ApiValue.cellsL e1.value.list_), .list (List.map strC e1.value.keys), .list (ApiExpr.cellsL e1.args), .list (List.map strC e1.keys)], .list (List.map ApiDecl.cells env1)] τ Q := by
 unfold l11_CheckNames at hf
 refine AC.none (AC.of_body 46 [.tmp 4] [0, 1] Tryz.func3 rfl rfl rfl rfl rfl (AW.sr (AR.step rfl rfl rfl (AO.box_ref rfl rfl rfl ?_))))
 refine cs 1 rfl (AR.nil [1, 2] rfl (AW.seq (AW.sr ?_)))
 refine cs 2 rfl (AR.step rfl rfl rfl (AO.len_list (l := env1) rfl rfl rfl rfl es_29 rfl rfl ?_))
 obtain ⟨x1, h1, hf⟩ := bind1_inv hf
 refine AR.step rfl rfl rfl (AO.call rfl _ rfl rfl pf_5 (c_l11_small _ _ h1 (cs 1 rfl (AR.nil [1, 2, 12] rfl (AW.cond rfl (fun h2 => ?_) (fun h2 => ?_))))))
 ·
  replace hf := ite_T h2 hf
  refine AW.sr ?_
  replace hf := (bind1_ret _).trans hf
  obtain ⟨x2, h3, hf⟩ := bind1_inv hf
  refine AR.step rfl rfl rfl (AO.call rfl _ rfl rfl pf_6 (c_l11_awake  h3 (cs 1 rfl (AR.nil [4] rfl (AW.ret ?_)))))
  cases hf
  exact ⟨rfl, _, ⟨_, _, rfl, rfl, rfl⟩, [], List.nil_sublist _, h⟩
 ·
  replace hf := ite_F h2 hf
  refine AW.skip (AW.seq (AW.draw 6 mixed (by kernel_rfl) rfl ?_))
  refine Ev.cs FX_ok 1 rfl ?_
  obtain ⟨l1, h4, hf⟩ := bind1_inv hf
  refine Ev.cons rfl rfl rfl (AO.call rfl _ rfl rfl pf_7 (c_check_Names _ h4 ⟨rfl, rfl⟩)) (Ev.cs FX_ok 1 rfl ?_)
  obtain ⟨m1, h5, hf⟩ := bind1_inv hf
  refine Ev.cons rfl rfl rfl (AO.call rfl _ rfl rfl pf_8 (c_r11_Names _ h5 ⟨rfl, rfl⟩)) (Ev.cs FX_ok 2 rfl (Ev.nil ?_))
  show AR _ _ _ _ _ _ _ _
  refine AR.nil [1, 5, 6] rfl (AW.seq (AW.sr (cs 1 rfl ?_)))
  refine AR.step rfl rfl rfl (AO.len_list (l := l1) rfl rfl rfl rfl es_23 rfl rfl (cs 1 rfl (AR.step rfl rfl rfl (AO.len_list (l := m1) rfl rfl rfl rfl es_23 rfl rfl (cs 1 rfl ?_)))))
  refine AR.nil [1, 5, 6, 22] rfl (AW.cond rfl (fun h6 => ?_) (fun h6 => ?_))
  ·
   replace hf := ite_T h6 hf
   refine AW.sr (cs 1 rfl (AR.nil [4] rfl (AW.ret ?_)))
   cases hf
   exact ⟨rfl, _, ⟨_, _, rfl, rfl, rfl⟩, [], List.nil_sublist _, h⟩
  ·
   replace hf := ite_F h6 hf
   refine AW.skip (AW.seq (AW.sr (cs 1 rfl ?_)))
   refine AR.nil [1, 5, 6, 7] rfl (AW.block (AW.settle [1, 5, 6, 7] rfl (AW.loopF1 (fun i1 => [(1, .list (List.map ApiDecl.cells env1)), (5, .list (List.map strC l1)), (6, .list (List.map strC m1)), (7, .int .i64 i1)]) (fun i1 => []) (fun kk1 i1 => l11_CheckNames_l1 env1 l1 m1 kk1 i1 = some r0) BIG 0 rfl rfl hf (fun _ hz => none_no hz) ?_)))
   intro kk1 i1 hf
   rw [l11_CheckNames_l1] at hf
   refine AW.seq (AW.sr (cs 2 rfl (AR.step rfl rfl rfl (AO.len_list (l := l1) rfl rfl rfl rfl es_23 rfl rfl ?_))))
   refine cs 1 rfl (AR.nil [1, 5, 6, 7, 26] rfl (AW.cond rfl (fun h7 => ?_) (fun h7 => ?_)))
   ·
    replace hf := ite_T h7 hf
    refine AW.skip (AW.seq (AW.block (AW.seq ?_)))
    refine AW.draw 9 mixed (by kernel_rfl) rfl ?_
    refine Ev.cs FX_ok 2 rfl ?_
    obtain ⟨e2, h8, hf⟩ := bind1_inv hf
    refine Ev.cons rfl rfl rfl (AO.idx_list h8 rfl rfl rfl rfl es_23 rfl rfl ⟨rfl, rfl⟩) (Ev.cs FX_ok 3 rfl ?_)
    obtain ⟨e3, h9, hf⟩ := bind1_inv hf
    refine Ev.cons rfl rfl rfl (AO.idx_list h9 rfl rfl rfl rfl es_23 rfl rfl ⟨rfl, rfl⟩) (Ev.cs FX_ok 2 rfl (Ev.nil ?_))
    show AR _ _ _ _ _ _ _ _
    refine AR.nil [1, 5, 6, 7, 37] rfl (AW.cond rfl (fun h10 => ?_) (fun h10 => ?_))
    ·
     replace hf := ite_T h10 hf
     refine AW.sr (cs 1 rfl (AR.nil [4] rfl (AW.ret ?_)))
     cases hf
     exact ⟨rfl, _, ⟨_, _, rfl, rfl, rfl⟩, [], List.nil_sublist _, h⟩
    ·
     replace hf := ite_F h10 hf
     refine AW.skip (AW.region (cs 3 rfl (AR.nil [1, 5, 6, 7] rfl ?_)))
     exact ⟨(w64 (i1 + 1)), rfl, rfl, rfl, hf⟩
   ·
    replace hf := ite_F h7 hf
    refine AW.exit (AW.sr (cs 1 rfl ?_))
    obtain ⟨x3, h11, hf⟩ := bind1_inv hf
    refine AR.step rfl rfl rfl (AO.call rfl _ rfl rfl pf_9 (c_check_Env _ h11 (cs 1 rfl ?_)))
    obtain ⟨x4, h12, hf⟩ := bind1_inv hf
    refine AR.step rfl rfl rfl (AO.call rfl _ rfl rfl pf_10 (c_r11_Env _ h12 (cs 2 rfl ?_)))
    replace hf := (bind1_ret _).trans hf
    obtain ⟨b1, h14, hf⟩ := bind1_inv hf
    refine AR.join1 2 43 45 true [] b1 rfl rfl (fun h13 => ?_) (fun h13 => ?_) ?_
    ·
     replace h14 := ite_T h13 h14
     refine AR.is 43 h13 rfl ?_
     replace h14 := (bind1_ret _).trans h14
     obtain ⟨x5, h15, h14⟩ := bind1_inv h14
     refine AR.go rfl rfl rfl rfl rfl rfl (AO.call rfl _ rfl rfl pf_6 (c_l11_awake  h15 ?_))
     obtain rfl := Option.some.inj h14
     refine cs 1 rfl (AR.nil [45] rfl ?_)
     exact ⟨rfl, rfl, rfl, rfl⟩
    ·
     replace h14 := ite_F h13 h14
     refine AR.is 43 h13 rfl ?_
     obtain rfl := Option.some.inj h14
     refine cs 2 rfl (AR.nil [45] rfl ?_)
     exact ⟨rfl, rfl, rfl, rfl⟩
    refine cs 1 rfl (AR.nil [4] rfl (AW.ret ?_))
    cases hf
    exact ⟨rfl, _, ⟨_, _, rfl, rfl, rfl⟩, [], List.nil_sublist _, h⟩


end Go.Proofs.YtpgknnldbnmndaaGreatDoor
