/- Proved here: each function does what its functional text says (part 3). -/
import Derived.Test.YtfmbeoeeakojoaaGreatDoorCtWalk2
set_option linter.unusedVariables false
set_option linter.unusedSimpArgs false
namespace Go.Proofs.YtfmbeoeeakojoaaGreatDoor
open Go Go.Abs Go.Ft
set_option maxRecDepth 20000
attribute [local irreducible] AO AR AW AC
theorem w_r07_Same (go_r07_Same : ApiValue → ApiValue → Option Bool) (go_r07_SameH : ∀ (ua1 : ApiValue) (ub1 : ApiValue) {urr1x0 : Bool}, go_r07_Same ua1 ub1 = some urr1x0 → ∀ {τ : List Res} {Q : AOut → List Res → Prop} (h : Q (.ret (.bool urr1x0)) τ), AC Tryz.prog 98 [.agg [.int .i64 ua1.kind, .bool ua1.bool_, .int .i64 ua1.int_, .str ua1.str_, .list (ApiValue.cellsL ua1.list_), .list (List.map strC ua1.keys)], .agg [.int .i64 ub1.kind, .bool ub1.bool_, .int .i64 ub1.int_, .str ub1.str_, .list (ApiValue.cellsL ub1.list_), .list (List.map strC ub1.keys)]] τ Q) (a1 : ApiValue) (b1 : ApiValue) {r0 : Bool} (hf : r07_Same_b go_r07_Same a1 b1 = some r0) {τ : List Res} {Q : AOut → List Res → Prop} (h : Q (.ret (.bool r0)) τ) : AC Tryz.prog 98 [.agg [.int .i64 a1.kind, .bool a1.bool_, .int .i64 a1.int_, .str a1.str_, .list (ApiValue.cellsL a1.list_), .list (List.map strC a1.keys)], .agg [.int .i64 b1.kind, .bool b1.bool_, .int .i64 b1.int_, .str b1.str_, .list (ApiValue.cellsL b1.list_), .list (List.map strC b1.keys)]] τ Q := by
 unfold r07_Same_b at hf
 refine AC.none (AC.of_body 88 [.tmp 4] [0, 1] Tryz.func98 rfl rfl rfl rfl rfl (AW.sr (AR.step rfl rfl rfl (AO.box_ref rfl rfl rfl ?_))))
 refine AR.step rfl rfl rfl (AO.box_ref rfl rfl rfl (cs 1 rfl (AR.nil [2, 3] rfl (AW.seq ?_))))
 refine AW.sr (cs 6 rfl (AR.or 6 12 18 [2, 3] (x := (!(a1.bool_ == b1.bool_))) rfl rfl (fun h1 => ?_) (fun h1 => ?_) ?_))
 ·
  refine AR.is 12 h1 rfl (cs 4 rfl (AR.go rfl rfl rfl rfl rfl rfl (AO.bool_neq rfl un_4 rfl rfl (cs 1 rfl ?_))))
  refine AR.nil [18, 2, 3] rfl ?_
  exact ⟨rfl, rfl, rfl, rfl⟩
 ·
  refine AR.is 12 h1 rfl (cs 6 rfl (AR.nil [18, 2, 3] rfl ?_))
  exact ⟨rfl, rfl, rfl, rfl⟩
 refine cs 1 rfl (AR.or 6 19 25 [2, 3] (x := (a1.int_ != b1.int_)) rfl rfl (fun h2 => ?_) (fun h2 => ?_) ?_)
 ·
  refine AR.is 19 h2 rfl (cs 6 rfl (AR.nil [25, 2, 3] rfl ?_))
  exact ⟨rfl, rfl, rfl, rfl⟩
 ·
  refine AR.is 19 h2 rfl (cs 6 rfl (AR.nil [25, 2, 3] rfl ?_))
  exact ⟨rfl, rfl, rfl, rfl⟩
 refine cs 1 rfl (AR.or 6 26 32 [2, 3] (x := (!(a1.str_ == b1.str_))) rfl rfl (fun h3 => ?_) (fun h3 => ?_) ?_)
 ·
  refine AR.is 26 h3 rfl (cs 6 rfl (AR.nil [32, 2, 3] rfl ?_))
  exact ⟨rfl, rfl, rfl, rfl⟩
 ·
  refine AR.is 26 h3 rfl (cs 6 rfl (AR.nil [32, 2, 3] rfl ?_))
  exact ⟨rfl, rfl, rfl, rfl⟩
 refine cs 1 rfl (AR.or 8 33 41 [2, 3] (x := ((a1.list_.length : Int) != (b1.list_.length : Int))) rfl rfl (fun h4 => ?_) (fun h4 => ?_) ?_)
 ·
  refine AR.is 33 h4 rfl (cs 2 rfl (AR.go rfl rfl rfl rfl rfl rfl (AO.len_list (l := a1.list_) rfl rfl rfl rfl es_22 rfl (ApiValue.cellsL_eq _) (cs 2 rfl ?_))))
  refine AR.go rfl rfl rfl rfl rfl rfl (AO.len_list (l := b1.list_) rfl rfl rfl rfl es_22 rfl (ApiValue.cellsL_eq _) (cs 2 rfl (AR.nil [41, 2, 3] rfl ?_)))
  exact ⟨rfl, rfl, rfl, rfl⟩
 ·
  refine AR.is 33 h4 rfl (cs 8 rfl (AR.nil [41, 2, 3] rfl ?_))
  exact ⟨rfl, rfl, rfl, rfl⟩
 refine cs 1 rfl (AR.or 8 42 50 [2, 3] (x := ((a1.keys.length : Int) != (b1.keys.length : Int))) rfl rfl (fun h5 => ?_) (fun h5 => ?_) ?_)
 ·
  refine AR.is 42 h5 rfl (cs 2 rfl (AR.go rfl rfl rfl rfl rfl rfl (AO.len_list (l := a1.keys) rfl rfl rfl rfl es_23 rfl rfl (cs 2 rfl ?_))))
  refine AR.go rfl rfl rfl rfl rfl rfl (AO.len_list (l := b1.keys) rfl rfl rfl rfl es_23 rfl rfl (cs 2 rfl (AR.nil [50, 2, 3] rfl ?_)))
  exact ⟨rfl, rfl, rfl, rfl⟩
 ·
  refine AR.is 42 h5 rfl (cs 8 rfl (AR.nil [50, 2, 3] rfl ?_))
  exact ⟨rfl, rfl, rfl, rfl⟩
 refine AR.nil [2, 3, 50] rfl (AW.cond rfl (fun h6 => ?_) (fun h6 => ?_))
 ·
  replace hf := ite_T h6 hf
  refine AW.sr (cs 1 rfl (AR.nil [4] rfl (AW.ret ?_)))
  cases hf
  exact ⟨rfl, _, ⟨_, _, rfl, rfl, rfl⟩, [], List.nil_sublist _, h⟩
 ·
  replace hf := ite_F h6 hf
  refine AW.skip (AW.seq (AW.sr (cs 1 rfl ?_)))
  refine AR.nil [2, 3, 5] rfl (AW.block (AW.settle [2, 3, 5] rfl (AW.loopF1 (fun i1 => [(2, .ref [.int .i64 a1.kind, .bool a1.bool_, .int .i64 a1.int_, .str a1.str_, .list (ApiValue.cellsL a1.list_), .list (List.map strC a1.keys)]), (3, .ref [.int .i64 b1.kind, .bool b1.bool_, .int .i64 b1.int_, .str b1.str_, .list (ApiValue.cellsL b1.list_), .list (List.map strC b1.keys)]), (5, .int .i64 i1)]) (fun i1 => []) (fun kk1 i1 => r07_Same_l1 go_r07_Same a1 b1 kk1 i1 = some r0) BIG 0 rfl rfl hf (fun _ hz => none_no hz) ?_)))
  intro kk1 i1 hf
  rw [r07_Same_l1] at hf
  refine AW.seq (AW.sr (cs 3 rfl (AR.step rfl rfl rfl (AO.len_list (l := a1.keys) rfl rfl rfl rfl es_23 rfl rfl ?_))))
  refine cs 1 rfl (AR.nil [2, 3, 5, 55] rfl (AW.cond rfl (fun h7 => ?_) (fun h7 => ?_)))
  ·
   replace hf := ite_T h7 hf
   refine AW.skip (AW.seq (AW.block (AW.seq ?_)))
   refine AW.draw 11 mixed (by kernel_rfl) rfl ?_
   refine Ev.cs FX_ok 3 rfl ?_
   obtain ⟨e1, h8, hf⟩ := bind1_inv hf
   refine Ev.cons rfl rfl rfl (AO.idx_list h8 rfl rfl rfl rfl es_23 rfl rfl ⟨rfl, rfl⟩) (Ev.cs FX_ok 4 rfl ?_)
   obtain ⟨e2, h9, hf⟩ := bind1_inv hf
   refine Ev.cons rfl rfl rfl (AO.idx_list h9 rfl rfl rfl rfl es_23 rfl rfl ⟨rfl, rfl⟩) (Ev.cs FX_ok 2 rfl (Ev.nil ?_))
   show AR _ _ _ _ _ _ _ _
   refine AR.nil [2, 3, 5, 68] rfl (AW.cond rfl (fun h10 => ?_) (fun h10 => ?_))
   ·
    replace hf := ite_T h10 hf
    refine AW.sr (cs 1 rfl (AR.nil [4] rfl (AW.ret ?_)))
    cases hf
    exact ⟨rfl, _, ⟨_, _, rfl, rfl, rfl⟩, [], List.nil_sublist _, h⟩
   ·
    replace hf := ite_F h10 hf
    refine AW.skip (AW.region (cs 3 rfl (AR.nil [2, 3, 5] rfl ?_)))
    exact ⟨(w64 (i1 + 1)), rfl, rfl, rfl, hf⟩
  ·
   replace hf := ite_F h7 hf
   refine AW.exit (AW.seq (AW.sr (cs 1 rfl ?_)))
   refine AR.nil [2, 3, 6] rfl (AW.block (AW.settle [2, 3, 6] rfl (AW.loopF1 (fun i2 => [(2, .ref [.int .i64 a1.kind, .bool a1.bool_, .int .i64 a1.int_, .str a1.str_, .list (ApiValue.cellsL a1.list_), .list (List.map strC a1.keys)]), (3, .ref [.int .i64 b1.kind, .bool b1.bool_, .int .i64 b1.int_, .str b1.str_, .list (ApiValue.cellsL b1.list_), .list (List.map strC b1.keys)]), (6, .int .i64 i2)]) (fun i2 => []) (fun kk2 i2 => r07_Same_l2 go_r07_Same a1 b1 kk2 i2 = some r0) BIG 0 rfl rfl hf (fun _ hz => none_no hz) ?_)))
   intro kk2 i2 hf
   rw [r07_Same_l2] at hf
   refine AW.seq (AW.sr (cs 3 rfl (AR.step rfl rfl rfl (AO.len_list (l := a1.list_) rfl rfl rfl rfl es_22 rfl (ApiValue.cellsL_eq _) ?_))))
   refine cs 1 rfl (AR.nil [2, 3, 6, 73] rfl (AW.cond rfl (fun h11 => ?_) (fun h11 => ?_)))
   ·
    replace hf := ite_T h11 hf
    refine AW.skip (AW.seq (AW.block (AW.seq ?_)))
    refine AW.draw 12 mixed (by kernel_rfl) rfl ?_
    refine Ev.cs FX_ok 3 rfl ?_
    obtain ⟨e3, h12, hf⟩ := bind1_inv hf
    refine Ev.cons rfl rfl rfl (AO.idx_list h12 rfl rfl (ApiValue.cellsL_eq _) rfl es_22 (ApiValue.cells_eq _) rfl ⟨rfl, rfl⟩) (Ev.cs FX_ok 4 rfl ?_)
    obtain ⟨e4, h13, hf⟩ := bind1_inv hf
    refine Ev.cons rfl rfl rfl (AO.idx_list h13 rfl rfl (ApiValue.cellsL_eq _) rfl es_22 (ApiValue.cells_eq _) rfl ⟨rfl, rfl⟩) (Ev.cs FX_ok 1 rfl ?_)
    obtain ⟨x1, h14, hf⟩ := bind1_inv hf
    refine Ev.cons rfl rfl rfl (AO.call rfl _ rfl rfl pf_98 (go_r07_SameH _ _ h14 ⟨rfl, rfl⟩)) (Ev.cs FX_ok 1 rfl (Ev.nil ?_))
    show AR _ _ _ _ _ _ _ _
    refine AR.nil [2, 3, 6, 87] rfl (AW.cond rfl (fun h15 => ?_) (fun h15 => ?_))
    ·
     replace hf := ite_T h15 hf
     refine AW.sr (cs 1 rfl (AR.nil [4] rfl (AW.ret ?_)))
     cases hf
     exact ⟨rfl, _, ⟨_, _, rfl, rfl, rfl⟩, [], List.nil_sublist _, h⟩
    ·
     replace hf := ite_F h15 hf
     refine AW.skip (AW.region (cs 3 rfl (AR.nil [2, 3, 6] rfl ?_)))
     exact ⟨(w64 (i2 + 1)), rfl, rfl, rfl, hf⟩
   ·
    replace hf := ite_F h11 hf
    refine AW.exit (AW.sr (cs 1 rfl (AR.nil [4] rfl ?_)))
    refine AW.ret ?_
    cases hf
    exact ⟨rfl, _, ⟨_, _, rfl, rfl, rfl⟩, [], List.nil_sublist _, h⟩

theorem n_r07_Same : ∀ k : Nat, (∀ (ua1 : ApiValue) (ub1 : ApiValue) {urr1x0 : Bool}, r07_Same_n k ua1 ub1 = some urr1x0 → ∀ {τ : List Res} {Q : AOut → List Res → Prop} (h : Q (.ret (.bool urr1x0)) τ), AC Tryz.prog 98 [.agg [.int .i64 ua1.kind, .bool ua1.bool_, .int .i64 ua1.int_, .str ua1.str_, .list (ApiValue.cellsL ua1.list_), .list (List.map strC ua1.keys)], .agg [.int .i64 ub1.kind, .bool ub1.bool_, .int .i64 ub1.int_, .str ub1.str_, .list (ApiValue.cellsL ub1.list_), .list (List.map strC ub1.keys)]] τ Q) := by
 intro k
 induction k with
 | zero => exact fun _ _ _ hz => by first | cases hz | (unfold r07_Same_n at hz; cases hz)
 | succ k ih => exact fun ua1 ub1 urr1x0 hz τ Q hq => w_r07_Same (r07_Same_n k) ih ua1 ub1 hz hq
theorem c_r07_Same (ua1 : ApiValue) (ub1 : ApiValue) {urr1x0 : Bool} (hf : r07_Same ua1 ub1 = some urr1x0) {τ : List Res} {Q : AOut → List Res → Prop} (h : Q (.ret (.bool urr1x0)) τ) : AC Tryz.prog 98 [.agg [.int .i64 ua1.kind, .bool ua1.bool_, .int .i64 ua1.int_, .str ua1.str_, .list (ApiValue.cellsL ua1.list_), .list (List.map strC ua1.keys)], .agg [.int .i64 ub1.kind, .bool ub1.bool_, .int .i64 ub1.int_, .str ub1.str_, .list (ApiValue.cellsL ub1.list_), .list (List.map strC ub1.keys)]] τ Q :=
 ((n_r07_Same BIG)) ua1 ub1 hf h

theorem c_r10_formed  (e1 : ApiExpr) {r0 : Bool} (hf : r10_formed e1 = some r0) {τ : List Res} {Q : AOut → List Res → Prop} (h : Q (.ret (.bool r0)) τ) : AC Tryz.prog 65 [.agg [.int .i64 e1.kind, .str e1.name, .int .i64 e1.value.kind, .bool e1.value.bool_, .int .i64 e1.value.int_, .str e1.value.str_, .list (ApiValue.cellsL e1.value.list_), .list (List.map strC e1.value.keys), .list (ApiExpr.cellsL e1.args), .list (List.map strC e1.keys)]] τ Q := by
 unfold r10_formed at hf
 refine AC.none (AC.of_body 61 [.tmp 2] [0] Tryz.func65 rfl rfl rfl rfl rfl (AW.sr (AR.step rfl rfl rfl (AO.box_ref rfl rfl rfl ?_))))
 refine cs 1 rfl (AR.nil [1] rfl (AW.seq (AW.sr ?_)))
 refine cs 1 rfl ?_
 obtain ⟨x1, h1, hf⟩ := bind1_inv hf
 refine AR.step rfl rfl rfl (AO.call rfl _ rfl rfl pf_96 (c_r10_arity _ h1 (cs 2 rfl ?_)))
 obtain ⟨b1, h3, hf⟩ := bind1_inv hf
 refine AR.join1 4 7 11 false [1] b1 rfl rfl (fun h2 => ?_) (fun h2 => ?_) ?_
 ·
  replace h3 := ite_F h2 h3
  refine AR.is 7 h2 rfl (cs 1 rfl ?_)
  obtain ⟨x2, h4, h3⟩ := bind1_inv h3
  refine AR.go rfl rfl rfl rfl rfl rfl (AO.call rfl _ rfl rfl pf_97 (c_r10_named _ h4 (cs 1 rfl ?_)))
  obtain rfl := Option.some.inj h3
  refine cs 1 rfl (AR.nil [11, 1] rfl ?_)
  exact ⟨rfl, rfl, rfl, rfl⟩
 ·
  replace h3 := ite_T h2 h3
  refine AR.is 7 h2 rfl ?_
  obtain rfl := Option.some.inj h3
  refine cs 4 rfl (AR.nil [11, 1] rfl ?_)
  exact ⟨rfl, rfl, rfl, rfl⟩
 refine cs 1 rfl ?_
 obtain ⟨b2, h6, hf⟩ := bind1_inv hf
 refine AR.join1 11 12 23 false [1] b2 rfl rfl (fun h5 => ?_) (fun h5 => ?_) ?_
 ·
  replace h6 := ite_F h5 h6
  refine AR.is 12 h5 rfl (cs 4 rfl ?_)
  replace h6 := (bind1_ret _).trans h6
  obtain ⟨b3, h8, h6⟩ := bind1_inv h6
  refine AR.join1 6 16 22 true [1, 12] b3 rfl rfl (fun h7 => ?_) (fun h7 => ?_) ?_
  ·
   replace h8 := ite_T h7 h8
   refine AR.is 16 h7 rfl (cs 2 rfl (AR.go rfl rfl rfl rfl rfl rfl (AO.build rfl zp_25 spl_25 rfl ?_)))
   obtain ⟨x3, h9, h8⟩ := bind1_inv h8
   refine AR.go rfl rfl rfl rfl rfl rfl (AO.call rfl _ rfl rfl pf_98 (c_r07_Same _ _ h9 (cs 1 rfl ?_)))
   obtain rfl := Option.some.inj h8
   refine cs 1 rfl (AR.nil [22, 1, 12] rfl ?_)
   exact ⟨rfl, rfl, rfl, rfl⟩
  ·
   replace h8 := ite_F h7 h8
   refine AR.is 16 h7 rfl ?_
   obtain rfl := Option.some.inj h8
   refine cs 6 rfl (AR.nil [22, 1, 12] rfl ?_)
   exact ⟨rfl, rfl, rfl, rfl⟩
  obtain rfl := Option.some.inj h6
  refine cs 1 rfl (AR.nil [23, 1] rfl ?_)
  exact ⟨rfl, rfl, rfl, rfl⟩
 ·
  replace h6 := ite_T h5 h6
  refine AR.is 12 h5 rfl ?_
  obtain rfl := Option.some.inj h6
  refine cs 11 rfl (AR.nil [23, 1] rfl ?_)
  exact ⟨rfl, rfl, rfl, rfl⟩
 refine AR.nil [1, 23] rfl (AW.cond rfl (fun h10 => ?_) (fun h10 => ?_))
 ·
  replace hf := ite_T h10 hf
  refine AW.sr (cs 1 rfl (AR.nil [2] rfl (AW.ret ?_)))
  cases hf
  exact ⟨rfl, _, ⟨_, _, rfl, rfl, rfl⟩, [], List.nil_sublist _, h⟩
 ·
  replace hf := ite_F h10 hf
  refine AW.skip (AW.seq (AW.sr (cs 3 rfl ?_)))
  refine AR.nil [1, 26] rfl (AW.cond rfl (fun h11 => ?_) (fun h11 => ?_))
  ·
   replace hf := ite_T h11 hf
   refine AW.sr (cs 2 rfl (AR.step rfl rfl rfl (AO.len_list (l := e1.keys) rfl rfl rfl rfl es_23 rfl rfl (cs 2 rfl ?_))))
   refine AR.nil [2] rfl (AW.ret ?_)
   cases hf
   exact ⟨rfl, _, ⟨_, _, rfl, rfl, rfl⟩, [], List.nil_sublist _, h⟩
  ·
   replace hf := ite_F h11 hf
   refine AW.skip (AW.seq (AW.sr (cs 1 rfl ?_)))
   refine AR.nil [1, 3] rfl (AW.block (AW.settle [1, 3] rfl (AW.loopF1 (fun i1 => [(1, .ref [.int .i64 e1.kind, .str e1.name, .int .i64 e1.value.kind, .bool e1.value.bool_, .int .i64 e1.value.int_, .str e1.value.str_, .list (ApiValue.cellsL e1.value.list_), .list (List.map strC e1.value.keys), .list (ApiExpr.cellsL e1.args), .list (List.map strC e1.keys)]), (3, .int .i64 i1)]) (fun i1 => []) (fun kk1 i1 => r10_formed_l1 e1 kk1 i1 = some r0) BIG 0 rfl rfl hf (fun _ hz => none_no hz) ?_)))
   intro kk1 i1 hf
   rw [r10_formed_l1] at hf
   refine AW.seq (AW.sr (cs 3 rfl (AR.step rfl rfl rfl (AO.len_list (l := e1.keys) rfl rfl rfl rfl es_23 rfl rfl ?_))))
   refine cs 1 rfl (AR.nil [1, 3, 35] rfl (AW.cond rfl (fun h12 => ?_) (fun h12 => ?_)))
   ·
    replace hf := ite_T h12 hf
    refine AW.skip (AW.seq (AW.block (AW.sr ?_)))
    refine cs 3 rfl ?_
    obtain ⟨e2, h13, hf⟩ := bind1_inv hf
    refine AR.step rfl rfl rfl (AO.idx_list h13 rfl rfl rfl rfl es_23 rfl rfl (cs 1 rfl (AR.step rfl rfl rfl (AO.len_str rfl rfl rfl rfl un_9 rfl (cs 2 rfl ?_)))))
    obtain ⟨b4, h15, hf⟩ := bind1_inv hf
    refine AR.join1 8 45 53 false [1, 3] b4 rfl rfl (fun h14 => ?_) (fun h14 => ?_) ?_
    ·
     replace h15 := ite_F h14 h15
     refine AR.is 45 h14 rfl (cs 3 rfl ?_)
     obtain ⟨e3, h16, h15⟩ := bind1_inv h15
     refine AR.go rfl rfl rfl rfl rfl rfl (AO.idx_list h16 rfl rfl rfl rfl es_23 rfl rfl (cs 1 rfl (AR.go rfl rfl rfl rfl rfl rfl (AO.len_str rfl rfl rfl rfl un_9 rfl (cs 1 rfl ?_)))))
     obtain rfl := Option.some.inj h15
     refine cs 1 rfl (AR.nil [53, 1, 3] rfl ?_)
     exact ⟨rfl, rfl, rfl, rfl⟩
    ·
     replace h15 := ite_T h14 h15
     refine AR.is 45 h14 rfl ?_
     obtain rfl := Option.some.inj h15
     refine cs 8 rfl (AR.nil [53, 1, 3] rfl ?_)
     exact ⟨rfl, rfl, rfl, rfl⟩
    refine AR.nil [1, 3, 53] rfl (AW.cond rfl (fun h17 => ?_) (fun h17 => ?_))
    ·
     replace hf := ite_T h17 hf
     refine AW.sr (cs 1 rfl (AR.nil [2] rfl (AW.ret ?_)))
     cases hf
     exact ⟨rfl, _, ⟨_, _, rfl, rfl, rfl⟩, [], List.nil_sublist _, h⟩
    ·
     replace hf := ite_F h17 hf
     refine AW.skip (AW.region (cs 3 rfl (AR.nil [1, 3] rfl ?_)))
     exact ⟨(w64 (i1 + 1)), rfl, rfl, rfl, hf⟩
   ·
    replace hf := ite_F h12 hf
    refine AW.exit (AW.sr (cs 2 rfl (AR.step rfl rfl rfl (AO.len_list (l := e1.keys) rfl rfl rfl rfl es_23 rfl rfl ?_))))
    refine cs 2 rfl (AR.step rfl rfl rfl (AO.len_list (l := e1.args) rfl rfl rfl rfl es_26 rfl (ApiExpr.cellsL_eq _) (cs 2 rfl (AR.nil [2] rfl ?_))))
    refine AW.ret ?_
    cases hf
    exact ⟨rfl, _, ⟨_, _, rfl, rfl, rfl⟩, [], List.nil_sublist _, h⟩

theorem c_r07_plain  (v1 : ApiValue) {r0 : Bool} (hf : r07_plain v1 = some r0) {τ : List Res} {Q : AOut → List Res → Prop} (h : Q (.ret (.bool r0)) τ) : AC Tryz.prog 122 [.agg [.int .i64 v1.kind, .bool v1.bool_, .int .i64 v1.int_, .str v1.str_, .list (ApiValue.cellsL v1.list_), .list (List.map strC v1.keys)]] τ Q := by
 unfold r07_plain at hf
 refine AC.none (AC.of_body 53 [.tmp 2] [0] Tryz.func122 rfl rfl rfl rfl rfl (AW.sr (AR.step rfl rfl rfl (AO.box_ref rfl rfl rfl ?_))))
 refine cs 1 rfl (AR.nil [1] rfl (AW.seq (AW.sr ?_)))
 refine cs 3 rfl (AR.and 4 5 9 [1] (x := (v1.kind != 1)) rfl rfl (fun h1 => ?_) (fun h1 => ?_) ?_)
 ·
  refine AR.is 5 h1 rfl (cs 4 rfl (AR.nil [9, 1] rfl ?_))
  exact ⟨rfl, rfl, rfl, rfl⟩
 ·
  refine AR.is 5 h1 rfl (cs 4 rfl (AR.nil [9, 1] rfl ?_))
  exact ⟨rfl, rfl, rfl, rfl⟩
 refine cs 1 rfl (AR.or 9 10 19 [1] (x := ((v1.int_ != 0) && (v1.kind != 2))) rfl rfl (fun h2 => ?_) (fun h2 => ?_) ?_)
 ·
  refine AR.is 10 h2 rfl (cs 4 rfl (AR.and 4 14 18 [1, 10] (x := (v1.kind != 2)) rfl rfl (fun h3 => ?_) (fun h3 => ?_) ?_))
  ·
   refine AR.is 14 h3 rfl (cs 4 rfl (AR.nil [18, 1, 10] rfl ?_))
   exact ⟨rfl, rfl, rfl, rfl⟩
  ·
   refine AR.is 14 h3 rfl (cs 4 rfl (AR.nil [18, 1, 10] rfl ?_))
   exact ⟨rfl, rfl, rfl, rfl⟩
  refine cs 1 rfl (AR.nil [19, 1] rfl ?_)
  exact ⟨rfl, rfl, rfl, rfl⟩
 ·
  refine AR.is 10 h2 rfl (cs 9 rfl (AR.nil [19, 1] rfl ?_))
  exact ⟨rfl, rfl, rfl, rfl⟩
 refine cs 1 rfl (AR.or 9 20 29 [1] (x := ((!(v1.str_ == ([] : Str))) && (v1.kind != 3))) rfl rfl (fun h4 => ?_) (fun h4 => ?_) ?_)
 ·
  refine AR.is 20 h4 rfl (cs 4 rfl (AR.and 4 24 28 [1, 20] (x := (v1.kind != 3)) rfl rfl (fun h5 => ?_) (fun h5 => ?_) ?_))
  ·
   refine AR.is 24 h5 rfl (cs 4 rfl (AR.nil [28, 1, 20] rfl ?_))
   exact ⟨rfl, rfl, rfl, rfl⟩
  ·
   refine AR.is 24 h5 rfl (cs 4 rfl (AR.nil [28, 1, 20] rfl ?_))
   exact ⟨rfl, rfl, rfl, rfl⟩
  refine cs 1 rfl (AR.nil [29, 1] rfl ?_)
  exact ⟨rfl, rfl, rfl, rfl⟩
 ·
  refine AR.is 20 h4 rfl (cs 9 rfl (AR.nil [29, 1] rfl ?_))
  exact ⟨rfl, rfl, rfl, rfl⟩
 refine AR.nil [1, 29] rfl (AW.cond rfl (fun h6 => ?_) (fun h6 => ?_))
 ·
  replace hf := ite_T h6 hf
  refine AW.sr (cs 1 rfl (AR.nil [2] rfl (AW.ret ?_)))
  cases hf
  exact ⟨rfl, _, ⟨_, _, rfl, rfl, rfl⟩, [], List.nil_sublist _, h⟩
 ·
  replace hf := ite_F h6 hf
  refine AW.skip (AW.seq (AW.sr (cs 2 rfl ?_)))
  refine AR.step rfl rfl rfl (AO.len_list (l := v1.list_) rfl rfl rfl rfl es_22 rfl (ApiValue.cellsL_eq _) (cs 2 rfl (AR.and 4 34 38 [1] (x := (v1.kind != 4)) rfl rfl (fun h7 => ?_) (fun h7 => ?_) ?_)))
  ·
   refine AR.is 34 h7 rfl (cs 4 rfl (AR.nil [38, 1] rfl ?_))
   exact ⟨rfl, rfl, rfl, rfl⟩
  ·
   refine AR.is 34 h7 rfl (cs 4 rfl (AR.nil [38, 1] rfl ?_))
   exact ⟨rfl, rfl, rfl, rfl⟩
  refine cs 1 rfl (AR.and 4 39 43 [1] (x := (v1.kind != 5)) rfl rfl (fun h8 => ?_) (fun h8 => ?_) ?_)
  ·
   refine AR.is 39 h8 rfl (cs 4 rfl (AR.nil [43, 1] rfl ?_))
   exact ⟨rfl, rfl, rfl, rfl⟩
  ·
   refine AR.is 39 h8 rfl (cs 4 rfl (AR.nil [43, 1] rfl ?_))
   exact ⟨rfl, rfl, rfl, rfl⟩
  refine AR.nil [1, 43] rfl (AW.cond rfl (fun h9 => ?_) (fun h9 => ?_))
  ·
   replace hf := ite_T h9 hf
   refine AW.sr (cs 1 rfl (AR.nil [2] rfl (AW.ret ?_)))
   cases hf
   exact ⟨rfl, _, ⟨_, _, rfl, rfl, rfl⟩, [], List.nil_sublist _, h⟩
  ·
   replace hf := ite_F h9 hf
   refine AW.skip (AW.sr (cs 2 rfl (AR.step rfl rfl rfl (AO.len_list (l := v1.keys) rfl rfl rfl rfl es_23 rfl rfl ?_))))
   refine cs 2 rfl (AR.or 4 48 52 [] (x := (v1.kind == 5)) rfl rfl (fun h10 => ?_) (fun h10 => ?_) ?_)
   ·
    refine AR.is 48 h10 rfl (cs 4 rfl (AR.nil [52] rfl ?_))
    exact ⟨rfl, rfl, rfl, rfl⟩
   ·
    refine AR.is 48 h10 rfl (cs 4 rfl (AR.nil [52] rfl ?_))
    exact ⟨rfl, rfl, rfl, rfl⟩
   refine cs 1 rfl (AR.nil [2] rfl (AW.ret ?_))
   cases hf
   exact ⟨rfl, _, ⟨_, _, rfl, rfl, rfl⟩, [], List.nil_sublist _, h⟩

theorem c_r07_key  (s1 : Str) {r0 : Bool} (hf : r07_key s1 = some r0) {τ : List Res} {Q : AOut → List Res → Prop} (h : Q (.ret (.bool r0)) τ) : AC Tryz.prog 142 [.str s1] τ Q := by
 unfold r07_key at hf
 refine AC.none (AC.of_body 11 [.tmp 2] [0] Tryz.func142 rfl rfl rfl rfl rfl (AW.sr (cs 1 rfl ?_)))
 refine AR.nil [0] rfl (AW.sr (cs 1 rfl (AR.step rfl rfl rfl (AO.len_str rfl rfl rfl rfl un_9 rfl ?_))))
 refine cs 2 rfl (AR.and 4 6 10 [] (x := (decide ((s1.length : Int) ≤ 64))) rfl rfl (fun h1 => ?_) (fun h1 => ?_) ?_)
 ·
  refine AR.is 6 h1 rfl (cs 1 rfl (AR.go rfl rfl rfl rfl rfl rfl (AO.len_str rfl rfl rfl rfl un_9 rfl (cs 2 rfl ?_))))
  refine AR.nil [10] rfl ?_
  exact ⟨rfl, rfl, rfl, rfl⟩
 ·
  refine AR.is 6 h1 rfl (cs 4 rfl (AR.nil [10] rfl ?_))
  exact ⟨rfl, rfl, rfl, rfl⟩
 refine cs 1 rfl (AR.nil [2] rfl (AW.ret ?_))
 cases hf
 exact ⟨rfl, _, ⟨_, _, rfl, rfl, rfl⟩, [], List.nil_sublist _, h⟩

theorem c_r04_order  (less1 : Bool) (greater1 : Bool) {r0 : Int} (hf : r04_order less1 greater1 = some r0) {τ : List Res} {Q : AOut → List Res → Prop} (h : Q (.ret (.int .i64 r0)) τ) : AC Tryz.prog 159 [.bool less1, .bool greater1] τ Q := by
 unfold r04_order at hf
 refine AC.none (AC.of_body 7 [.tmp 4] [0, 1] Tryz.func159 rfl rfl rfl rfl rfl (AW.sr (cs 1 rfl ?_)))
 refine AR.nil [0, 1] rfl (AW.seq (AW.sr (cs 1 rfl ?_)))
 refine AR.nil [1, 5] rfl (AW.cond rfl (fun h1 => ?_) (fun h1 => ?_))
 ·
  replace hf := ite_T h1 hf
  refine AW.sr (cs 1 rfl (AR.nil [4] rfl (AW.ret ?_)))
  cases hf
  exact ⟨rfl, _, ⟨_, _, rfl, rfl, rfl⟩, [], List.nil_sublist _, h⟩
 ·
  replace hf := ite_F h1 hf
  refine AW.skip (AW.seq (AW.sr (cs 1 rfl ?_)))
  refine AR.nil [6] rfl (AW.cond rfl (fun h2 => ?_) (fun h2 => ?_))
  ·
   replace hf := ite_T h2 hf
   refine AW.sr (cs 1 rfl (AR.nil [4] rfl (AW.ret ?_)))
   cases hf
   exact ⟨rfl, _, ⟨_, _, rfl, rfl, rfl⟩, [], List.nil_sublist _, h⟩
  ·
   replace hf := ite_F h2 hf
   refine AW.skip (AW.sr (cs 1 rfl (AR.nil [4] rfl ?_)))
   refine AW.ret ?_
   cases hf
   exact ⟨rfl, _, ⟨_, _, rfl, rfl, rfl⟩, [], List.nil_sublist _, h⟩

theorem c_r04_digit  (c1 : UInt8) {r0 : Bool} (hf : r04_digit c1 = some r0) {τ : List Res} {Q : AOut → List Res → Prop} (h : Q (.ret (.bool r0)) τ) : AC Tryz.prog 160 [.int .u8 (c1.toNat : Int)] τ Q := by
 unfold r04_digit at hf
 refine AC.none (AC.of_body 9 [.tmp 2] [0] Tryz.func160 rfl rfl rfl rfl rfl (AW.sr (cs 1 rfl ?_)))
 refine AR.nil [0] rfl (AW.sr (cs 3 rfl (AR.and 3 5 8 [] (x := (decide ((c1.toNat : Int) ≤ 57))) rfl rfl (fun h1 => ?_) (fun h1 => ?_) ?_)))
 ·
  refine AR.is 5 h1 rfl (cs 3 rfl (AR.nil [8] rfl ?_))
  exact ⟨rfl, rfl, rfl, rfl⟩
 ·
  refine AR.is 5 h1 rfl (cs 3 rfl (AR.nil [8] rfl ?_))
  exact ⟨rfl, rfl, rfl, rfl⟩
 refine cs 1 rfl (AR.nil [2] rfl (AW.ret ?_))
 cases hf
 exact ⟨rfl, _, ⟨_, _, rfl, rfl, rfl⟩, [], List.nil_sublist _, h⟩

theorem c_r04_run  (s1 : Str) (at1 : Int) {r0 : Int} (hf : r04_run s1 at1 = some r0) {τ : List Res} {Q : AOut → List Res → Prop} (h : Q (.ret (.int .i64 r0)) τ) : AC Tryz.prog 161 [.str s1, .int .i64 at1] τ Q := by
 unfold r04_run at hf
 refine AC.none (AC.of_body 18 [.tmp 4] [0, 1] Tryz.func161 rfl rfl rfl rfl rfl (AW.sr (cs 1 rfl ?_)))
 refine AR.nil [0, 1] rfl (AW.seq (AW.block (AW.settle [0, 1] rfl ?_)))
 refine AW.loopF1 (fun at2 => [(0, .str s1), (1, .int .i64 at2)]) (fun at2 => []) (fun kk1 at2 => r04_run_l1 s1 kk1 at2 = some r0) BIG at1 rfl rfl hf (fun _ hz => none_no hz) ?_
 intro kk1 at2 hf
 rw [r04_run_l1] at hf
 refine AW.seq (AW.sr (cs 2 rfl (AR.step rfl rfl rfl (AO.len_str rfl rfl rfl rfl un_9 rfl ?_))))
 refine cs 2 rfl ?_
 obtain ⟨b1, h2, hf⟩ := bind1_inv hf
 refine AR.join1 5 9 14 true [0, 1] b1 rfl rfl (fun h1 => ?_) (fun h1 => ?_) ?_
 ·
  replace h2 := ite_T h1 h2
  refine AR.is 9 h1 rfl (cs 2 rfl ?_)
  obtain ⟨x1, h3, h2⟩ := bind1_inv h2
  refine AR.go rfl rfl rfl rfl rfl rfl (AO.idx_str h3 rfl un_9 rfl rfl ?_)
  replace h2 := (bind1_ret _).trans h2
  obtain ⟨x2, h4, h2⟩ := bind1_inv h2
  refine AR.go rfl rfl rfl rfl rfl rfl (AO.call rfl _ rfl rfl pf_160 (c_r04_digit _ h4 ?_))
  obtain rfl := Option.some.inj h2
  refine cs 1 rfl (AR.nil [14, 0, 1] rfl ?_)
  exact ⟨rfl, rfl, rfl, rfl⟩
 ·
  replace h2 := ite_F h1 h2
  refine AR.is 9 h1 rfl ?_
  obtain rfl := Option.some.inj h2
  refine cs 5 rfl (AR.nil [14, 0, 1] rfl ?_)
  exact ⟨rfl, rfl, rfl, rfl⟩
 refine AR.nil [0, 1, 14] rfl (AW.cond rfl (fun h5 => ?_) (fun h5 => ?_))
 ·
  replace hf := ite_T h5 hf
  refine AW.skip (AW.block (AW.region (cs 3 rfl ?_)))
  refine AR.nil [0, 1] rfl ?_
  exact ⟨(w64 (at2 + 1)), rfl, rfl, rfl, hf⟩
 ·
  replace hf := ite_F h5 hf
  refine AW.exit (AW.sr (cs 2 rfl (AR.nil [4] rfl ?_)))
  refine AW.ret ?_
  cases hf
  exact ⟨rfl, _, ⟨_, _, rfl, rfl, rfl⟩, [], List.nil_sublist _, h⟩

theorem c_r04_strip  (s1 : Str) {r0 : Str} (hf : r04_strip s1 = some r0) {τ : List Res} {Q : AOut → List Res → Prop} (h : Q (.ret (.str r0)) τ) : AC Tryz.prog 171 [.str s1] τ Q := by
 unfold r04_strip at hf
 refine AC.none (AC.of_body 19 [.tmp 2] [0] Tryz.func171 rfl rfl rfl rfl rfl (AW.sr (cs 1 rfl ?_)))
 refine AR.nil [0] rfl (AW.sr (cs 1 rfl (AR.nil [0, 3] rfl ?_)))
 refine AW.seq (AW.block (AW.settle [0, 3] rfl (AW.loopF1 (fun i1 => [(0, .str s1), (3, .int .i64 i1)]) (fun i1 => []) (fun kk1 i1 => r04_strip_l1 s1 kk1 i1 = some r0) BIG 0 rfl rfl hf (fun _ hz => none_no hz) ?_)))
 intro kk1 i1 hf
 rw [r04_strip_l1] at hf
 refine AW.seq (AW.sr (cs 2 rfl (AR.step rfl rfl rfl (AO.len_str rfl rfl rfl rfl un_9 rfl ?_))))
 refine cs 2 rfl ?_
 obtain ⟨b1, h2, hf⟩ := bind1_inv hf
 refine AR.join1 5 8 13 true [0, 3] b1 rfl rfl (fun h1 => ?_) (fun h1 => ?_) ?_
 ·
  replace h2 := ite_T h1 h2
  refine AR.is 8 h1 rfl (cs 2 rfl ?_)
  obtain ⟨x1, h3, h2⟩ := bind1_inv h2
  refine AR.go rfl rfl rfl rfl rfl rfl (AO.idx_str h3 rfl un_9 rfl rfl (cs 1 rfl ?_))
  obtain rfl := Option.some.inj h2
  refine cs 1 rfl (AR.nil [13, 0, 3] rfl ?_)
  exact ⟨rfl, rfl, rfl, rfl⟩
 ·
  replace h2 := ite_F h1 h2
  refine AR.is 8 h1 rfl ?_
  obtain rfl := Option.some.inj h2
  refine cs 5 rfl (AR.nil [13, 0, 3] rfl ?_)
  exact ⟨rfl, rfl, rfl, rfl⟩
 refine AR.nil [0, 3, 13] rfl (AW.cond rfl (fun h4 => ?_) (fun h4 => ?_))
 ·
  replace hf := ite_T h4 hf
  refine AW.skip (AW.block (AW.region (cs 3 rfl ?_)))
  refine AR.nil [0, 3] rfl ?_
  exact ⟨(w64 (i1 + 1)), rfl, rfl, rfl, hf⟩
 ·
  replace hf := ite_F h4 hf
  refine AW.exit (AW.sr (cs 2 rfl ?_))
  replace hf := (bind1_ret _).trans hf
  obtain ⟨x2, h5, hf⟩ := bind1_inv hf
  refine AR.step rfl rfl rfl (AO.sl_str h5 rfl un_9 rfl ⟨_, rfl⟩ rfl (cs 1 rfl (AR.nil [2] rfl (AW.ret ?_))))
  cases hf
  exact ⟨rfl, _, ⟨_, _, rfl, rfl, rfl⟩, [], List.nil_sublist _, h⟩

theorem c_r04_runs  (a1 : Str) (b1 : Str) {r0 : Int} (hf : r04_runs a1 b1 = some r0) {τ : List Res} {Q : AOut → List Res → Prop} (h : Q (.ret (.int .i64 r0)) τ) : AC Tryz.prog 162 [.str a1, .str b1] τ Q := by
 unfold r04_runs at hf
 refine AC.none (AC.of_body 48 [.tmp 4] [0, 1] Tryz.func162 rfl rfl rfl rfl rfl (AW.sr (cs 1 rfl ?_)))
 refine AR.nil [0, 1] rfl (AW.sr (cs 1 rfl ?_))
 obtain ⟨x1, h1, hf⟩ := bind1_inv hf
 refine AR.step rfl rfl rfl (AO.call rfl _ rfl rfl pf_171 (c_r04_strip _ h1 (cs 1 rfl ?_)))
 obtain ⟨y1, h2, hf⟩ := bind1_inv hf
 refine AR.step rfl rfl rfl (AO.call rfl _ rfl rfl pf_171 (c_r04_strip _ h2 (cs 2 rfl (AR.nil [0, 1, 5, 6] rfl (AW.seq ?_)))))
 refine AW.sr (cs 1 rfl (AR.step rfl rfl rfl (AO.len_str rfl rfl rfl rfl un_9 rfl (cs 1 rfl ?_))))
 refine AR.step rfl rfl rfl (AO.len_str rfl rfl rfl rfl un_9 rfl (cs 1 rfl (AR.nil [0, 1, 5, 6, 15] rfl (AW.cond rfl (fun h3 => ?_) (fun h3 => ?_)))))
 ·
  replace hf := ite_T h3 hf
  refine AW.sr (cs 1 rfl (AR.step rfl rfl rfl (AO.len_str rfl rfl rfl rfl un_9 rfl (cs 1 rfl ?_))))
  refine AR.step rfl rfl rfl (AO.len_str rfl rfl rfl rfl un_9 rfl (cs 2 rfl (AR.step rfl rfl rfl (AO.len_str rfl rfl rfl rfl un_9 rfl (cs 1 rfl ?_)))))
  refine AR.step rfl rfl rfl (AO.len_str rfl rfl rfl rfl un_9 rfl (cs 1 rfl ?_))
  replace hf := (bind1_ret _).trans hf
  obtain ⟨x2, h4, hf⟩ := bind1_inv hf
  refine AR.step rfl rfl rfl (AO.call rfl _ rfl rfl pf_159 (c_r04_order _ _ h4 (cs 1 rfl (AR.nil [4] rfl (AW.ret ?_)))))
  cases hf
  exact ⟨rfl, _, ⟨_, _, rfl, rfl, rfl⟩, [], List.nil_sublist _, h⟩
 ·
  replace hf := ite_F h3 hf
  refine AW.skip (AW.seq (AW.sr (cs 3 rfl ?_)))
  refine AR.nil [0, 1, 5, 6, 29] rfl (AW.cond rfl (fun h5 => ?_) (fun h5 => ?_))
  ·
   replace hf := ite_T h5 hf
   refine AW.sr (cs 6 rfl ?_)
   replace hf := (bind1_ret _).trans hf
   obtain ⟨x3, h6, hf⟩ := bind1_inv hf
   refine AR.step rfl rfl rfl (AO.call rfl _ rfl rfl pf_159 (c_r04_order _ _ h6 (cs 1 rfl (AR.nil [4] rfl (AW.ret ?_)))))
   cases hf
   exact ⟨rfl, _, ⟨_, _, rfl, rfl, rfl⟩, [], List.nil_sublist _, h⟩
  ·
   replace hf := ite_F h5 hf
   refine AW.skip (AW.sr (cs 1 rfl (AR.step rfl rfl rfl (AO.len_str rfl rfl rfl rfl un_9 rfl ?_))))
   refine cs 1 rfl (AR.step rfl rfl rfl (AO.len_str rfl rfl rfl rfl un_9 rfl (cs 2 rfl (AR.step rfl rfl rfl (AO.len_str rfl rfl rfl rfl un_9 rfl ?_)))))
   refine cs 1 rfl (AR.step rfl rfl rfl (AO.len_str rfl rfl rfl rfl un_9 rfl (cs 1 rfl ?_)))
   replace hf := (bind1_ret _).trans hf
   obtain ⟨x4, h7, hf⟩ := bind1_inv hf
   refine AR.step rfl rfl rfl (AO.call rfl _ rfl rfl pf_159 (c_r04_order _ _ h7 (cs 1 rfl (AR.nil [4] rfl (AW.ret ?_)))))
   cases hf
   exact ⟨rfl, _, ⟨_, _, rfl, rfl, rfl⟩, [], List.nil_sublist _, h⟩

theorem c_r04_Compare  (a1 : Str) (b1 : Str) {r0 : Int} (hf : r04_Compare a1 b1 = some r0) {τ : List Res} {Q : AOut → List Res → Prop} (h : Q (.ret (.int .i64 r0)) τ) : AC Tryz.prog 143 [.str a1, .str b1] τ Q := by
 unfold r04_Compare at hf
 refine AC.none (AC.of_body 78 [.tmp 4] [0, 1] Tryz.func143 rfl rfl rfl rfl rfl (AW.sr (cs 1 rfl ?_)))
 refine AR.nil [0, 1] rfl (AW.sr (cs 2 rfl (AR.nil [0, 1, 5, 6] rfl ?_)))
 refine AW.seq (AW.block (AW.settle [0, 1, 5, 6] rfl (AW.loopF2 (fun i1 kx1 => [(0, .str a1), (1, .str b1), (5, .int .i64 i1), (6, .int .i64 kx1)]) (fun i1 kx1 => []) (fun kk1 i1 kx1 => r04_Compare_l1 a1 b1 kk1 i1 kx1 = some r0) BIG 0 0 rfl rfl hf (fun _ _ hz => none_no hz) ?_)))
 intro kk1 i1 kx1 hf
 rw [r04_Compare_l1] at hf
 refine AW.seq (AW.sr (cs 2 rfl (AR.step rfl rfl rfl (AO.len_str rfl rfl rfl rfl un_9 rfl ?_))))
 refine cs 2 rfl (AR.and 5 14 19 [0, 1, 5, 6] (x := (decide (kx1 < (b1.length : Int)))) rfl rfl (fun h1 => ?_) (fun h1 => ?_) ?_)
 ·
  refine AR.is 14 h1 rfl (cs 2 rfl (AR.go rfl rfl rfl rfl rfl rfl (AO.len_str rfl rfl rfl rfl un_9 rfl (cs 2 rfl ?_))))
  refine AR.nil [19, 0, 1, 5, 6] rfl ?_
  exact ⟨rfl, rfl, rfl, rfl⟩
 ·
  refine AR.is 14 h1 rfl (cs 5 rfl (AR.nil [19, 0, 1, 5, 6] rfl ?_))
  exact ⟨rfl, rfl, rfl, rfl⟩
 refine AR.nil [0, 1, 5, 6, 19] rfl (AW.cond rfl (fun h2 => ?_) (fun h2 => ?_))
 ·
  replace hf := ite_T h2 hf
  refine AW.skip (AW.block (AW.seq (AW.draw 16 mixed (by kernel_rfl) rfl ?_)))
  refine Ev.cs FX_ok 2 rfl ?_
  obtain ⟨x1, h3, hf⟩ := bind1_inv hf
  refine Ev.cons rfl rfl rfl (AO.idx_str h3 rfl un_9 rfl rfl ⟨rfl, rfl⟩) (Ev.cs FX_ok 2 rfl ?_)
  obtain ⟨x2, h4, hf⟩ := bind1_inv hf
  refine Ev.cons rfl rfl rfl (AO.idx_str h4 rfl un_9 rfl rfl ⟨rfl, rfl⟩) (Ev.cs FX_ok 3 rfl ?_)
  obtain ⟨x3, h5, hf⟩ := bind1_inv hf
  refine Ev.cons rfl rfl rfl (AO.idx_str h5 rfl un_9 rfl rfl ⟨rfl, rfl⟩) (Ev.cs FX_ok 2 rfl ?_)
  obtain ⟨x4, h6, hf⟩ := bind1_inv hf
  refine Ev.cons rfl rfl rfl (AO.idx_str h6 rfl un_9 rfl rfl ⟨rfl, rfl⟩) (Ev.cs FX_ok 1 rfl ?_)
  obtain ⟨c1, h7, hf⟩ := bind1_inv hf
  refine Ev.cons rfl rfl rfl (AO.call rfl _ rfl rfl pf_159 (c_r04_order _ _ h7 ⟨rfl, rfl⟩)) (Ev.cs FX_ok 1 rfl (Ev.nil ?_))
  show AR _ _ _ _ _ _ _ _
  refine AR.nil [0, 1, 5, 6, 7] rfl (AW.sr (cs 6 rfl (AR.nil [0, 1, 5, 6, 7, 8, 9] rfl ?_)))
  refine AW.seq (AW.sr (cs 2 rfl ?_))
  obtain ⟨x5, h8, hf⟩ := bind1_inv hf
  refine AR.step rfl rfl rfl (AO.idx_str h8 rfl un_9 rfl rfl ?_)
  obtain ⟨x6, h9, hf⟩ := bind1_inv hf
  refine AR.step rfl rfl rfl (AO.call rfl _ rfl rfl pf_160 (c_r04_digit _ h9 (cs 1 rfl ?_)))
  obtain ⟨b2, h11, hf⟩ := bind1_inv hf
  refine AR.join1 5 43 48 true [0, 1, 5, 6, 7, 8, 9] b2 rfl rfl (fun h10 => ?_) (fun h10 => ?_) ?_
  ·
   replace h11 := ite_T h10 h11
   refine AR.is 43 h10 rfl (cs 2 rfl ?_)
   obtain ⟨x7, h12, h11⟩ := bind1_inv h11
   refine AR.go rfl rfl rfl rfl rfl rfl (AO.idx_str h12 rfl un_9 rfl rfl ?_)
   replace h11 := (bind1_ret _).trans h11
   obtain ⟨x8, h13, h11⟩ := bind1_inv h11
   refine AR.go rfl rfl rfl rfl rfl rfl (AO.call rfl _ rfl rfl pf_160 (c_r04_digit _ h13 ?_))
   obtain rfl := Option.some.inj h11
   refine cs 1 rfl (AR.nil [48, 0, 1, 5, 6, 7, 8, 9] rfl ?_)
   exact ⟨rfl, rfl, rfl, rfl⟩
  ·
   replace h11 := ite_F h10 h11
   refine AR.is 43 h10 rfl ?_
   obtain rfl := Option.some.inj h11
   refine cs 5 rfl (AR.nil [48, 0, 1, 5, 6, 7, 8, 9] rfl ?_)
   exact ⟨rfl, rfl, rfl, rfl⟩
  refine AR.nil [0, 1, 5, 6, 7, 8, 9, 48] rfl (AW.cond rfl (fun h14 => ?_) (fun h14 => ?_))
  ·
   replace hf := ite_T h14 hf
   refine AW.sr (cs 2 rfl ?_)
   obtain ⟨m1, h15, hf⟩ := bind1_inv hf
   refine AR.step rfl rfl rfl (AO.call rfl _ rfl rfl pf_161 (c_r04_run _ _ h15 (cs 2 rfl ?_)))
   obtain ⟨n1, h16, hf⟩ := bind1_inv hf
   refine AR.step rfl rfl rfl (AO.call rfl _ rfl rfl pf_161 (c_r04_run _ _ h16 (cs 2 rfl (AR.nil [0, 1, 5, 6, 8, 9] rfl (AW.draw 10 mixed (by kernel_rfl) rfl ?_)))))
   refine Ev.cs FX_ok 3 rfl ?_
   obtain ⟨x9, h17, hf⟩ := bind1_inv hf
   refine Ev.cons rfl rfl rfl (AO.sl_str h17 rfl un_9 rfl ⟨_, rfl⟩ ⟨_, rfl⟩ ⟨rfl, rfl⟩) (Ev.cs FX_ok 3 rfl ?_)
   obtain ⟨x10, h18, hf⟩ := bind1_inv hf
   refine Ev.cons rfl rfl rfl (AO.sl_str h18 rfl un_9 rfl ⟨_, rfl⟩ ⟨_, rfl⟩ ⟨rfl, rfl⟩) ?_
   obtain ⟨c2, h19, hf⟩ := bind1_inv hf
   refine Ev.cons rfl rfl rfl (AO.call rfl _ rfl rfl pf_162 (c_r04_runs _ _ h19 ⟨rfl, rfl⟩)) (Ev.cs FX_ok 1 rfl (Ev.nil ?_))
   show AR _ _ _ _ _ _ _ _
   refine AR.nil [0, 1, 7, 8, 9] rfl (AW.seq (AW.sr (cs 2 rfl ?_)))
   refine AR.nil [0, 1, 7, 8, 9, 65] rfl (AW.cond rfl (fun h20 => ?_) (fun h20 => ?_))
   ·
    replace hf := ite_T h20 hf
    refine AW.sr (cs 2 rfl (AR.nil [4] rfl (AW.ret ?_)))
    cases hf
    exact ⟨rfl, _, ⟨_, _, rfl, rfl, rfl⟩, [], List.nil_sublist _, h⟩
   ·
    replace hf := ite_F h20 hf
    refine AW.skip (AW.region (cs 4 rfl (AR.nil [0, 1, 5, 6] rfl ?_)))
    exact ⟨m1, n1, rfl, rfl, rfl, hf⟩
  ·
   replace hf := ite_F h14 hf
   refine AW.skip (AW.seq (AW.sr (cs 2 rfl ?_)))
   refine AR.nil [0, 1, 7, 8, 9, 65] rfl (AW.cond rfl (fun h21 => ?_) (fun h21 => ?_))
   ·
    replace hf := ite_T h21 hf
    refine AW.sr (cs 2 rfl (AR.nil [4] rfl (AW.ret ?_)))
    cases hf
    exact ⟨rfl, _, ⟨_, _, rfl, rfl, rfl⟩, [], List.nil_sublist _, h⟩
   ·
    replace hf := ite_F h21 hf
    refine AW.skip (AW.region (cs 4 rfl (AR.nil [0, 1, 5, 6] rfl ?_)))
    exact ⟨(w64 (i1 + 1)), (w64 (kx1 + 1)), rfl, rfl, rfl, hf⟩
 ·
  replace hf := ite_F h2 hf
  refine AW.exit (AW.sr (cs 2 rfl (AR.step rfl rfl rfl (AO.len_str rfl rfl rfl rfl un_9 rfl ?_))))
  refine cs 3 rfl (AR.step rfl rfl rfl (AO.len_str rfl rfl rfl rfl un_9 rfl (cs 1 rfl ?_)))
  replace hf := (bind1_ret _).trans hf
  obtain ⟨x11, h22, hf⟩ := bind1_inv hf
  refine AR.step rfl rfl rfl (AO.call rfl _ rfl rfl pf_159 (c_r04_order _ _ h22 (cs 1 rfl (AR.nil [4] rfl (AW.ret ?_)))))
  cases hf
  exact ⟨rfl, _, ⟨_, _, rfl, rfl, rfl⟩, [], List.nil_sublist _, h⟩

theorem c_r07_ascending  (v1 : ApiValue) {r0 : Bool} (hf : r07_ascending v1 = some r0) {τ : List Res} {Q : AOut → List Res → Prop} (h : Q (.ret (.bool r0)) τ) : AC Tryz.prog 123 [.agg [.int .i64 v1.kind, .bool v1.bool_, .int .i64 v1.int_, .str v1.str_, .list (ApiValue.cellsL v1.list_), .list (List.map strC v1.keys)]] τ Q := by
 unfold r07_ascending at hf
 refine AC.none (AC.of_body 44 [.tmp 2] [0] Tryz.func123 rfl rfl rfl rfl rfl (AW.sr (AR.step rfl rfl rfl (AO.box_ref rfl rfl rfl ?_))))
 refine cs 1 rfl (AR.nil [1] rfl (AW.seq (AW.sr ?_)))
 refine cs 1 rfl (AR.nil [1, 3] rfl (AW.block (AW.settle [1, 3] rfl ?_)))
 refine AW.loopF1 (fun i1 => [(1, .ref [.int .i64 v1.kind, .bool v1.bool_, .int .i64 v1.int_, .str v1.str_, .list (ApiValue.cellsL v1.list_), .list (List.map strC v1.keys)]), (3, .int .i64 i1)]) (fun i1 => []) (fun kk1 i1 => r07_ascending_l1 v1 kk1 i1 = some r0) BIG 0 rfl rfl hf (fun _ hz => none_no hz) ?_
 intro kk1 i1 hf
 rw [r07_ascending_l1] at hf
 refine AW.seq (AW.sr (cs 3 rfl (AR.step rfl rfl rfl (AO.len_list (l := v1.keys) rfl rfl rfl rfl es_23 rfl rfl ?_))))
 refine cs 1 rfl (AR.nil [1, 3, 8] rfl (AW.cond rfl (fun h1 => ?_) (fun h1 => ?_)))
 ·
  replace hf := ite_T h1 hf
  refine AW.skip (AW.seq (AW.block (AW.seq ?_)))
  refine AW.draw 26 mixed (by kernel_rfl) rfl ?_
  refine Ev.cs FX_ok 3 rfl ?_
  obtain ⟨e1, h2, hf⟩ := bind1_inv hf
  refine Ev.cons rfl rfl rfl (AO.idx_list h2 rfl rfl rfl rfl es_23 rfl rfl ⟨rfl, rfl⟩) (Ev.cs FX_ok 1 rfl ?_)
  obtain ⟨x1, h3, hf⟩ := bind1_inv hf
  refine Ev.cons rfl rfl rfl (AO.call rfl _ rfl rfl pf_142 (c_r07_key _ h3 ⟨rfl, rfl⟩)) (Ev.cs FX_ok 2 rfl ?_)
  obtain ⟨b1, h5, hf⟩ := bind1_inv hf
  refine Ev.join1 hKA 18 18 36 false [1, 3] (.bool b1) rfl rfl (fun h4 => ?_) (fun h4 => ?_) ?_
  ·
   replace h5 := ite_F h4 h5
   refine Ev.is hKL 18 h4 rfl (Ev.cs FX_ok 3 rfl ?_)
   replace h5 := (bind1_ret _).trans h5
   obtain ⟨b2, h7, h5⟩ := bind1_inv h5
   refine Ev.join1 hKL 14 21 35 true [1, 3, 18] (.bool b2) rfl rfl (fun h6 => ?_) (fun h6 => ?_) ?_
   ·
    replace h7 := ite_T h6 h7
    refine Ev.is hKL 21 h6 rfl (Ev.cs FX_ok 4 rfl ?_)
    obtain ⟨e2, h8, h7⟩ := bind1_inv h7
    refine Ev.run rfl rfl rfl rfl rfl rfl rfl (AO.idx_list h8 rfl rfl rfl rfl es_23 rfl rfl ⟨rfl, rfl⟩) (Ev.cs FX_ok 4 rfl ?_)
    obtain ⟨e3, h9, h7⟩ := bind1_inv h7
    refine Ev.run rfl rfl rfl rfl rfl rfl rfl (AO.idx_list h9 rfl rfl rfl rfl es_23 rfl rfl ⟨rfl, rfl⟩) (Ev.cs FX_ok 1 rfl ?_)
    obtain ⟨x2, h10, h7⟩ := bind1_inv h7
    refine Ev.run rfl rfl rfl rfl rfl rfl rfl (AO.call rfl _ rfl rfl pf_143 (c_r04_Compare _ _ h10 ⟨rfl, rfl⟩)) (Ev.cs FX_ok 1 rfl ?_)
    obtain rfl := Option.some.inj h7
    refine Ev.cs FX_ok 1 rfl ?_
    exact Ev.nil (Less.settle (ps := [35, 1, 3, 18]) rfl)
   ·
    replace h7 := ite_F h6 h7
    refine Ev.is hKL 21 h6 rfl ?_
    obtain rfl := Option.some.inj h7
    refine Ev.cs FX_ok 14 rfl ?_
    exact Ev.nil (Less.settle (ps := [35, 1, 3, 18]) rfl)
   obtain rfl := Option.some.inj h5
   refine Ev.cs FX_ok 1 rfl ?_
   exact Ev.nil (Less.settle (ps := [36, 1, 3]) rfl)
  ·
   replace h5 := ite_T h4 h5
   refine Ev.is hKL 18 h4 rfl ?_
   obtain rfl := Option.some.inj h5
   refine Ev.cs FX_ok 18 rfl ?_
   exact Ev.nil (Less.settle (ps := [36, 1, 3]) rfl)
  refine Ev.nil ?_
  show AR _ _ _ _ _ _ _ _
  refine AR.nil [1, 3, 36] rfl (AW.cond rfl (fun h11 => ?_) (fun h11 => ?_))
  ·
   replace hf := ite_T h11 hf
   refine AW.sr (cs 1 rfl (AR.nil [2] rfl (AW.ret ?_)))
   cases hf
   exact ⟨rfl, _, ⟨_, _, rfl, rfl, rfl⟩, [], List.nil_sublist _, h⟩
  ·
   replace hf := ite_F h11 hf
   refine AW.skip (AW.region (cs 3 rfl (AR.nil [1, 3] rfl ?_)))
   exact ⟨(w64 (i1 + 1)), rfl, rfl, rfl, hf⟩
 ·
  replace hf := ite_F h1 hf
  refine AW.exit (AW.sr (cs 2 rfl (AR.step rfl rfl rfl (AO.len_list (l := v1.keys) rfl rfl rfl rfl es_23 rfl rfl ?_))))
  refine cs 2 rfl (AR.step rfl rfl rfl (AO.len_list (l := v1.list_) rfl rfl rfl rfl es_22 rfl (ApiValue.cellsL_eq _) (cs 2 rfl (AR.nil [2] rfl ?_))))
  refine AW.ret ?_
  cases hf
  exact ⟨rfl, _, ⟨_, _, rfl, rfl, rfl⟩, [], List.nil_sublist _, h⟩

theorem w_r07_check (go_r07_check : ApiValue → Int → Option Int) (go_r07_checkH : ∀ (uv1 : ApiValue) (ulevel1 : Int) {urr1x0 : Int}, go_r07_check uv1 ulevel1 = some urr1x0 → ∀ {τ : List Res} {Q : AOut → List Res → Prop} (h : Q (.ret (.int .i64 urr1x0)) τ), AC Tryz.prog 99 [.agg [.int .i64 uv1.kind, .bool uv1.bool_, .int .i64 uv1.int_, .str uv1.str_, .list (ApiValue.cellsL uv1.list_), .list (List.map strC uv1.keys)], .int .i64 ulevel1] τ Q) (v1 : ApiValue) (level1 : Int) {r0 : Int} (hf : r07_check_b go_r07_check v1 level1 = some r0) {τ : List Res} {Q : AOut → List Res → Prop} (h : Q (.ret (.int .i64 r0)) τ) : AC Tryz.prog 99 [.agg [.int .i64 v1.kind, .bool v1.bool_, .int .i64 v1.int_, .str v1.str_, .list (ApiValue.cellsL v1.list_), .list (List.map strC v1.keys)], .int .i64 level1] τ Q := by
 unfold r07_check_b at hf
 refine AC.none (AC.of_body 85 [.tmp 4] [0, 1] Tryz.func99 rfl rfl rfl rfl rfl (AW.sr (AR.step rfl rfl rfl (AO.box_ref rfl rfl rfl ?_))))
 refine cs 1 rfl (AR.nil [1, 2] rfl (AW.seq (AW.sr ?_)))
 refine cs 2 rfl (AR.nil [1, 2, 8] rfl (AW.cond rfl (fun h1 => ?_) (fun h1 => ?_)))
 ·
  replace hf := ite_T h1 hf
  refine AW.sr (cs 1 rfl (AR.nil [4] rfl (AW.ret ?_)))
  cases hf
  exact ⟨rfl, _, ⟨_, _, rfl, rfl, rfl⟩, [], List.nil_sublist _, h⟩
 ·
  replace hf := ite_F h1 hf
  refine AW.skip (AW.seq (AW.sr (cs 4 rfl ?_)))
  refine AR.or 4 12 16 [1, 2] (x := (decide (5 < v1.kind))) rfl rfl (fun h2 => ?_) (fun h2 => ?_) ?_
  ·
   refine AR.is 12 h2 rfl (cs 4 rfl (AR.nil [16, 1, 2] rfl ?_))
   exact ⟨rfl, rfl, rfl, rfl⟩
  ·
   refine AR.is 12 h2 rfl (cs 4 rfl (AR.nil [16, 1, 2] rfl ?_))
   exact ⟨rfl, rfl, rfl, rfl⟩
  refine cs 1 rfl ?_
  obtain ⟨b1, h4, hf⟩ := bind1_inv hf
  refine AR.join1 4 17 21 false [1, 2] b1 rfl rfl (fun h3 => ?_) (fun h3 => ?_) ?_
  ·
   replace h4 := ite_F h3 h4
   refine AR.is 17 h3 rfl (cs 1 rfl ?_)
   obtain ⟨x1, h5, h4⟩ := bind1_inv h4
   refine AR.go rfl rfl rfl rfl rfl rfl (AO.call rfl _ rfl rfl pf_122 (c_r07_plain _ h5 (cs 1 rfl ?_)))
   obtain rfl := Option.some.inj h4
   refine cs 1 rfl (AR.nil [21, 1, 2] rfl ?_)
   exact ⟨rfl, rfl, rfl, rfl⟩
  ·
   replace h4 := ite_T h3 h4
   refine AR.is 17 h3 rfl ?_
   obtain rfl := Option.some.inj h4
   refine cs 4 rfl (AR.nil [21, 1, 2] rfl ?_)
   exact ⟨rfl, rfl, rfl, rfl⟩
  refine AR.nil [1, 2, 21] rfl (AW.cond rfl (fun h6 => ?_) (fun h6 => ?_))
  ·
   replace hf := ite_T h6 hf
   refine AW.sr (cs 1 rfl (AR.nil [4] rfl (AW.ret ?_)))
   cases hf
   exact ⟨rfl, _, ⟨_, _, rfl, rfl, rfl⟩, [], List.nil_sublist _, h⟩
  ·
   replace hf := ite_F h6 hf
   refine AW.skip (AW.seq (AW.sr (cs 4 rfl ?_)))
   refine AR.or 4 25 29 [1, 2] (x := (decide (9007199254740992 < v1.int_))) rfl rfl (fun h7 => ?_) (fun h7 => ?_) ?_
   ·
    refine AR.is 25 h7 rfl (cs 4 rfl (AR.nil [29, 1, 2] rfl ?_))
    exact ⟨rfl, rfl, rfl, rfl⟩
   ·
    refine AR.is 25 h7 rfl (cs 4 rfl (AR.nil [29, 1, 2] rfl ?_))
    exact ⟨rfl, rfl, rfl, rfl⟩
   refine AR.nil [1, 2, 29] rfl (AW.cond rfl (fun h8 => ?_) (fun h8 => ?_))
   ·
    replace hf := ite_T h8 hf
    refine AW.sr (cs 1 rfl (AR.nil [4] rfl (AW.ret ?_)))
    cases hf
    exact ⟨rfl, _, ⟨_, _, rfl, rfl, rfl⟩, [], List.nil_sublist _, h⟩
   ·
    replace hf := ite_F h8 hf
    refine AW.skip (AW.seq (AW.sr (cs 2 rfl ?_)))
    refine AR.step rfl rfl rfl (AO.len_str rfl rfl rfl rfl un_9 rfl (cs 2 rfl (AR.or 5 34 39 [1, 2] (x := (decide (1024 < (v1.list_.length : Int)))) rfl rfl (fun h9 => ?_) (fun h9 => ?_) ?_)))
    ·
     refine AR.is 34 h9 rfl (cs 2 rfl (AR.go rfl rfl rfl rfl rfl rfl (AO.len_list (l := v1.list_) rfl rfl rfl rfl es_22 rfl (ApiValue.cellsL_eq _) (cs 2 rfl ?_))))
     refine AR.nil [39, 1, 2] rfl ?_
     exact ⟨rfl, rfl, rfl, rfl⟩
    ·
     refine AR.is 34 h9 rfl (cs 5 rfl (AR.nil [39, 1, 2] rfl ?_))
     exact ⟨rfl, rfl, rfl, rfl⟩
    refine cs 1 rfl (AR.or 5 40 45 [1, 2] (x := (decide (1024 < (v1.keys.length : Int)))) rfl rfl (fun h10 => ?_) (fun h10 => ?_) ?_)
    ·
     refine AR.is 40 h10 rfl (cs 2 rfl (AR.go rfl rfl rfl rfl rfl rfl (AO.len_list (l := v1.keys) rfl rfl rfl rfl es_23 rfl rfl (cs 2 rfl ?_))))
     refine AR.nil [45, 1, 2] rfl ?_
     exact ⟨rfl, rfl, rfl, rfl⟩
    ·
     refine AR.is 40 h10 rfl (cs 5 rfl (AR.nil [45, 1, 2] rfl ?_))
     exact ⟨rfl, rfl, rfl, rfl⟩
    refine AR.nil [1, 2, 45] rfl (AW.cond rfl (fun h11 => ?_) (fun h11 => ?_))
    ·
     replace hf := ite_T h11 hf
     refine AW.sr (cs 1 rfl (AR.nil [4] rfl (AW.ret ?_)))
     cases hf
     exact ⟨rfl, _, ⟨_, _, rfl, rfl, rfl⟩, [], List.nil_sublist _, h⟩
    ·
     replace hf := ite_F h11 hf
     refine AW.skip (AW.seq (AW.sr (cs 4 rfl ?_)))
     obtain ⟨b2, h13, hf⟩ := bind1_inv hf
     refine AR.join1 4 49 53 true [1, 2] b2 rfl rfl (fun h12 => ?_) (fun h12 => ?_) ?_
     ·
      replace h13 := ite_T h12 h13
      refine AR.is 49 h12 rfl (cs 1 rfl ?_)
      obtain ⟨x2, h14, h13⟩ := bind1_inv h13
      refine AR.go rfl rfl rfl rfl rfl rfl (AO.call rfl _ rfl rfl pf_123 (c_r07_ascending _ h14 (cs 1 rfl ?_)))
      obtain rfl := Option.some.inj h13
      refine cs 1 rfl (AR.nil [53, 1, 2] rfl ?_)
      exact ⟨rfl, rfl, rfl, rfl⟩
     ·
      replace h13 := ite_F h12 h13
      refine AR.is 49 h12 rfl ?_
      obtain rfl := Option.some.inj h13
      refine cs 4 rfl (AR.nil [53, 1, 2] rfl ?_)
      exact ⟨rfl, rfl, rfl, rfl⟩
     refine AR.nil [1, 2, 53] rfl (AW.cond rfl (fun h15 => ?_) (fun h15 => ?_))
     ·
      replace hf := ite_T h15 hf
      refine AW.sr (cs 1 rfl (AR.nil [4] rfl (AW.ret ?_)))
      cases hf
      exact ⟨rfl, _, ⟨_, _, rfl, rfl, rfl⟩, [], List.nil_sublist _, h⟩
     ·
      replace hf := ite_F h15 hf
      refine AW.skip (AW.seq (AW.sr (cs 4 rfl ?_)))
      refine AR.and 5 57 62 [1, 2] (x := ((v1.list_.length : Int) == 0)) rfl rfl (fun h16 => ?_) (fun h16 => ?_) ?_
      ·
       refine AR.is 57 h16 rfl (cs 2 rfl (AR.go rfl rfl rfl rfl rfl rfl (AO.len_list (l := v1.list_) rfl rfl rfl rfl es_22 rfl (ApiValue.cellsL_eq _) (cs 2 rfl ?_))))
       refine AR.nil [62, 1, 2] rfl ?_
       exact ⟨rfl, rfl, rfl, rfl⟩
      ·
       refine AR.is 57 h16 rfl (cs 5 rfl (AR.nil [62, 1, 2] rfl ?_))
       exact ⟨rfl, rfl, rfl, rfl⟩
      refine cs 1 rfl (AR.and 3 63 66 [1, 2] (x := (level1 == 16)) rfl rfl (fun h17 => ?_) (fun h17 => ?_) ?_)
      ·
       refine AR.is 63 h17 rfl (cs 3 rfl (AR.nil [66, 1, 2] rfl ?_))
       exact ⟨rfl, rfl, rfl, rfl⟩
      ·
       refine AR.is 63 h17 rfl (cs 3 rfl (AR.nil [66, 1, 2] rfl ?_))
       exact ⟨rfl, rfl, rfl, rfl⟩
      refine AR.nil [1, 2, 66] rfl (AW.cond rfl (fun h18 => ?_) (fun h18 => ?_))
      ·
       replace hf := ite_T h18 hf
       refine AW.sr (cs 1 rfl (AR.nil [4] rfl (AW.ret ?_)))
       cases hf
       exact ⟨rfl, _, ⟨_, _, rfl, rfl, rfl⟩, [], List.nil_sublist _, h⟩
      ·
       replace hf := ite_F h18 hf
       refine AW.skip (AW.seq (AW.sr (cs 1 rfl ?_)))
       refine AR.nil [1, 2, 5] rfl (AW.block (AW.settle [1, 2, 5] rfl (AW.loopF1 (fun i1 => [(1, .int .i64 level1), (2, .ref [.int .i64 v1.kind, .bool v1.bool_, .int .i64 v1.int_, .str v1.str_, .list (ApiValue.cellsL v1.list_), .list (List.map strC v1.keys)]), (5, .int .i64 i1)]) (fun i1 => []) (fun kk1 i1 => r07_check_l1 go_r07_check v1 level1 kk1 i1 = some r0) BIG 0 rfl rfl hf (fun _ hz => none_no hz) ?_)))
       intro kk1 i1 hf
       rw [r07_check_l1] at hf
       refine AW.seq (AW.sr (cs 3 rfl (AR.step rfl rfl rfl (AO.len_list (l := v1.list_) rfl rfl rfl rfl es_22 rfl (ApiValue.cellsL_eq _) ?_))))
       refine cs 1 rfl (AR.nil [1, 2, 5, 71] rfl (AW.cond rfl (fun h19 => ?_) (fun h19 => ?_)))
       ·
        replace hf := ite_T h19 hf
        refine AW.skip (AW.seq (AW.block (AW.sr ?_)))
        refine cs 3 rfl ?_
        obtain ⟨e1, h20, hf⟩ := bind1_inv hf
        refine AR.step rfl rfl rfl (AO.idx_list h20 rfl rfl (ApiValue.cellsL_eq _) rfl es_22 (ApiValue.cells_eq _) rfl (cs 3 rfl ?_))
        obtain ⟨e2, h21, hf⟩ := bind1_inv hf
        refine AR.step rfl rfl rfl (AO.call rfl _ rfl rfl pf_99 (go_r07_checkH _ _ h21 (cs 1 rfl (AR.nil [1, 2, 5, 6] rfl (AW.sr ?_)))))
        refine cs 2 rfl (AR.nil [1, 2, 5, 6, 83] rfl (AW.cond rfl (fun h22 => ?_) (fun h22 => ?_)))
        ·
         replace hf := ite_T h22 hf
         refine AW.sr (cs 2 rfl (AR.nil [4] rfl (AW.ret ?_)))
         cases hf
         exact ⟨rfl, _, ⟨_, _, rfl, rfl, rfl⟩, [], List.nil_sublist _, h⟩
        ·
         replace hf := ite_F h22 hf
         refine AW.skip (AW.region (cs 3 rfl (AR.nil [1, 2, 5] rfl ?_)))
         exact ⟨(w64 (i1 + 1)), rfl, rfl, rfl, hf⟩
       ·
        replace hf := ite_F h19 hf
        refine AW.exit (AW.sr (cs 1 rfl (AR.nil [4] rfl ?_)))
        refine AW.ret ?_
        cases hf
        exact ⟨rfl, _, ⟨_, _, rfl, rfl, rfl⟩, [], List.nil_sublist _, h⟩

theorem n_r07_check : ∀ k : Nat, (∀ (uv1 : ApiValue) (ulevel1 : Int) {urr1x0 : Int}, r07_check_n k uv1 ulevel1 = some urr1x0 → ∀ {τ : List Res} {Q : AOut → List Res → Prop} (h : Q (.ret (.int .i64 urr1x0)) τ), AC Tryz.prog 99 [.agg [.int .i64 uv1.kind, .bool uv1.bool_, .int .i64 uv1.int_, .str uv1.str_, .list (ApiValue.cellsL uv1.list_), .list (List.map strC uv1.keys)], .int .i64 ulevel1] τ Q) := by
 intro k
 induction k with
 | zero => exact fun _ _ _ hz => by first | cases hz | (unfold r07_check_n at hz; cases hz)
 | succ k ih => exact fun uv1 ulevel1 urr1x0 hz τ Q hq => w_r07_check (r07_check_n k) ih uv1 ulevel1 hz hq
theorem c_r07_check (uv1 : ApiValue) (ulevel1 : Int) {urr1x0 : Int} (hf : r07_check uv1 ulevel1 = some urr1x0) {τ : List Res} {Q : AOut → List Res → Prop} (h : Q (.ret (.int .i64 urr1x0)) τ) : AC Tryz.prog 99 [.agg [.int .i64 uv1.kind, .bool uv1.bool_, .int .i64 uv1.int_, .str uv1.str_, .list (ApiValue.cellsL uv1.list_), .list (List.map strC uv1.keys)], .int .i64 ulevel1] τ Q :=
 ((n_r07_check BIG)) uv1 ulevel1 hf h

theorem c_r07_Valid  (v1 : ApiValue) {r0 : Int} (hf : r07_Valid v1 = some r0) {τ : List Res} {Q : AOut → List Res → Prop} (h : Q (.ret (.int .i64 r0)) τ) : AC Tryz.prog 66 [.agg [.int .i64 v1.kind, .bool v1.bool_, .int .i64 v1.int_, .str v1.str_, .list (ApiValue.cellsL v1.list_), .list (List.map strC v1.keys)]] τ Q := by
 unfold r07_Valid at hf
 refine AC.none (AC.of_body 5 [.tmp 2] [0] Tryz.func66 rfl rfl rfl rfl rfl (AW.sr (AR.step rfl rfl rfl (AO.box_ref rfl rfl rfl ?_))))
 refine cs 1 rfl (AR.nil [1] rfl (AW.sr (cs 1 rfl ?_)))
 replace hf := (bind1_ret _).trans hf
 obtain ⟨x1, h1, hf⟩ := bind1_inv hf
 refine AR.step rfl rfl rfl (AO.call rfl _ rfl rfl pf_99 (c_r07_check _ _ h1 (cs 1 rfl (AR.nil [2] rfl (AW.ret ?_)))))
 cases hf
 exact ⟨rfl, _, ⟨_, _, rfl, rfl, rfl⟩, [], List.nil_sublist _, h⟩

theorem c_r10_twice  (keys1 : List Str) {r0 : Bool} (hf : r10_twice keys1 = some r0) {τ : List Res} {Q : AOut → List Res → Prop} (h : Q (.ret (.bool r0)) τ) : AC Tryz.prog 67 [.list (List.map strC keys1)] τ Q := by
 unfold r10_twice at hf
 refine AC.none (AC.of_body 25 [.tmp 2] [0] Tryz.func67 rfl rfl rfl rfl rfl (AW.sr (cs 1 rfl ?_)))
 refine AR.nil [0] rfl (AW.seq (AW.sr (cs 1 rfl ?_)))
 refine AR.nil [0, 3] rfl (AW.block (AW.settle [0, 3] rfl (AW.loopF1 (fun i1 => [(0, .list (List.map strC keys1)), (3, .int .i64 i1)]) (fun i1 => []) (fun kk1 i1 => r10_twice_l1 keys1 kk1 i1 = some r0) BIG 0 rfl rfl hf (fun _ hz => none_no hz) ?_)))
 intro kk1 i1 hf
 rw [r10_twice_l1] at hf
 refine AW.seq (AW.sr (cs 2 rfl (AR.step rfl rfl rfl (AO.len_list (l := keys1) rfl rfl rfl rfl es_23 rfl rfl ?_))))
 refine cs 1 rfl (AR.nil [0, 3, 8] rfl (AW.cond rfl (fun h1 => ?_) (fun h1 => ?_)))
 ·
  replace hf := ite_T h1 hf
  refine AW.skip (AW.seq (AW.block (AW.sr ?_)))
  refine cs 1 rfl (AR.nil [0, 3, 4] rfl (AW.block (AW.settle [0, 3, 4] rfl ?_)))
  refine AW.loopF1 (fun kx1 => [(0, .list (List.map strC keys1)), (3, .int .i64 i1), (4, .int .i64 kx1)]) (fun kx1 => []) (fun kk2 kx1 => r10_twice_l2 keys1 i1 (r10_twice_l1 keys1 kk1) kk2 kx1 = some r0) BIG 0 rfl rfl hf (fun _ hz => none_no hz) ?_
  intro kk2 kx1 hf
  rw [r10_twice_l2] at hf
  refine AW.seq (AW.sr (cs 3 rfl (AR.nil [0, 3, 4, 13] rfl ?_)))
  refine AW.cond rfl (fun h2 => ?_) (fun h2 => ?_)
  ·
   replace hf := ite_T h2 hf
   refine AW.skip (AW.seq (AW.block (AW.seq ?_)))
   refine AW.draw 9 mixed (by kernel_rfl) rfl ?_
   refine Ev.cs FX_ok 2 rfl ?_
   obtain ⟨e1, h3, hf⟩ := bind1_inv hf
   refine Ev.cons rfl rfl rfl (AO.idx_list h3 rfl rfl rfl rfl es_23 rfl rfl ⟨rfl, rfl⟩) (Ev.cs FX_ok 3 rfl ?_)
   obtain ⟨e2, h4, hf⟩ := bind1_inv hf
   refine Ev.cons rfl rfl rfl (AO.idx_list h4 rfl rfl rfl rfl es_23 rfl rfl ⟨rfl, rfl⟩) (Ev.cs FX_ok 2 rfl (Ev.nil ?_))
   show AR _ _ _ _ _ _ _ _
   refine AR.nil [0, 3, 4, 24] rfl (AW.cond rfl (fun h5 => ?_) (fun h5 => ?_))
   ·
    replace hf := ite_T h5 hf
    refine AW.sr (cs 1 rfl (AR.nil [2] rfl (AW.ret ?_)))
    cases hf
    exact ⟨rfl, _, ⟨_, _, rfl, rfl, rfl⟩, [], List.nil_sublist _, h⟩
   ·
    replace hf := ite_F h5 hf
    refine AW.skip (AW.region (cs 3 rfl (AR.nil [0, 3, 4] rfl ?_)))
    exact ⟨(w64 (kx1 + 1)), rfl, rfl, rfl, hf⟩
  ·
   replace hf := ite_F h2 hf
   refine AW.exit (AW.region (cs 3 rfl (AR.nil [0, 3] rfl ?_)))
   exact ⟨(w64 (i1 + 1)), rfl, rfl, rfl, hf⟩
 ·
  replace hf := ite_F h1 hf
  refine AW.exit (AW.sr (cs 1 rfl (AR.nil [2] rfl ?_)))
  refine AW.ret ?_
  cases hf
  exact ⟨rfl, _, ⟨_, _, rfl, rfl, rfl⟩, [], List.nil_sublist _, h⟩

theorem w_r10_check (go_r10_check : ApiExpr → Int → Option Int) (go_r10_checkH : ∀ (ue1 : ApiExpr) (ulevel1 : Int) {urr1x0 : Int}, go_r10_check ue1 ulevel1 = some urr1x0 → ∀ {τ : List Res} {Q : AOut → List Res → Prop} (h : Q (.ret (.int .i64 urr1x0)) τ), AC Tryz.prog 44 [.agg [.int .i64 ue1.kind, .str ue1.name, .int .i64 ue1.value.kind, .bool ue1.value.bool_, .int .i64 ue1.value.int_, .str ue1.value.str_, .list (ApiValue.cellsL ue1.value.list_), .list (List.map strC ue1.value.keys), .list (ApiExpr.cellsL ue1.args), .list (List.map strC ue1.keys)], .int .i64 ulevel1] τ Q) (e1 : ApiExpr) (level1 : Int) {r0 : Int} (hf : r10_check_b go_r10_check e1 level1 = some r0) {τ : List Res} {Q : AOut → List Res → Prop} (h : Q (.ret (.int .i64 r0)) τ) : AC Tryz.prog 44 [.agg [.int .i64 e1.kind, .str e1.name, .int .i64 e1.value.kind, .bool e1.value.bool_, .int .i64 e1.value.int_, .str e1.value.str_, .list (ApiValue.cellsL e1.value.list_), .list (List.map strC e1.value.keys), .list (ApiExpr.cellsL e1.args), .list (List.map strC e1.keys)], .int .i64 level1] τ Q := by
 unfold r10_check_b at hf
 refine AC.none (AC.of_body 49 [.tmp 4] [0, 1] Tryz.func44 rfl rfl rfl rfl rfl (AW.sr (AR.step rfl rfl rfl (AO.box_ref rfl rfl rfl ?_))))
 refine cs 1 rfl (AR.nil [1, 2] rfl (AW.seq (AW.sr ?_)))
 refine cs 2 rfl (AR.nil [1, 2, 9] rfl (AW.cond rfl (fun h1 => ?_) (fun h1 => ?_)))
 ·
  replace hf := ite_T h1 hf
  refine AW.sr (cs 1 rfl (AR.nil [4] rfl (AW.ret ?_)))
  cases hf
  exact ⟨rfl, _, ⟨_, _, rfl, rfl, rfl⟩, [], List.nil_sublist _, h⟩
 ·
  replace hf := ite_F h1 hf
  refine AW.skip (AW.seq (AW.sr (cs 1 rfl ?_)))
  obtain ⟨x1, h2, hf⟩ := bind1_inv hf
  refine AR.step rfl rfl rfl (AO.call rfl _ rfl rfl pf_65 (c_r10_formed _ h2 (cs 1 rfl (AR.nil [1, 2, 12] rfl (AW.cond rfl (fun h3 => ?_) (fun h3 => ?_))))))
  ·
   replace hf := ite_T h3 hf
   refine AW.sr (cs 1 rfl (AR.nil [4] rfl (AW.ret ?_)))
   cases hf
   exact ⟨rfl, _, ⟨_, _, rfl, rfl, rfl⟩, [], List.nil_sublist _, h⟩
  ·
   replace hf := ite_F h3 hf
   refine AW.skip (AW.seq (AW.sr (cs 2 rfl ?_)))
   obtain ⟨f1, h4, hf⟩ := bind1_inv hf
   refine AR.step rfl rfl rfl (AO.call rfl _ rfl rfl pf_66 (c_r07_Valid _ h4 (cs 1 rfl (AR.nil [1, 2, 5] rfl (AW.sr ?_)))))
   refine cs 4 rfl (AR.and 3 19 22 [1, 2, 5] (x := (f1 != 0)) rfl rfl (fun h5 => ?_) (fun h5 => ?_) ?_)
   ·
    refine AR.is 19 h5 rfl (cs 3 rfl (AR.nil [22, 1, 2, 5] rfl ?_))
    exact ⟨rfl, rfl, rfl, rfl⟩
   ·
    refine AR.is 19 h5 rfl (cs 3 rfl (AR.nil [22, 1, 2, 5] rfl ?_))
    exact ⟨rfl, rfl, rfl, rfl⟩
   refine AR.nil [1, 2, 5, 22] rfl (AW.cond rfl (fun h6 => ?_) (fun h6 => ?_))
   ·
    replace hf := ite_T h6 hf
    refine AW.sr (cs 2 rfl (AR.nil [4] rfl (AW.ret ?_)))
    cases hf
    exact ⟨rfl, _, ⟨_, _, rfl, rfl, rfl⟩, [], List.nil_sublist _, h⟩
   ·
    replace hf := ite_F h6 hf
    refine AW.skip (AW.seq (AW.sr (cs 2 rfl ?_)))
    refine AR.step rfl rfl rfl (AO.len_list (l := e1.args) rfl rfl rfl rfl es_26 rfl (ApiExpr.cellsL_eq _) (cs 1 rfl (AR.nil [1, 2, 27] rfl (AW.cond rfl (fun h7 => ?_) (fun h7 => ?_)))))
    ·
     replace hf := ite_T h7 hf
     refine AW.sr (cs 1 rfl (AR.nil [4] rfl (AW.ret ?_)))
     cases hf
     exact ⟨rfl, _, ⟨_, _, rfl, rfl, rfl⟩, [], List.nil_sublist _, h⟩
    ·
     replace hf := ite_F h7 hf
     refine AW.skip (AW.seq (AW.sr (cs 2 rfl ?_)))
     obtain ⟨x2, h8, hf⟩ := bind1_inv hf
     refine AR.step rfl rfl rfl (AO.call rfl _ rfl rfl pf_67 (c_r10_twice _ h8 (AR.nil [1, 2, 30] rfl (AW.cond rfl (fun h9 => ?_) (fun h9 => ?_)))))
     ·
      replace hf := ite_T h9 hf
      refine AW.sr (cs 1 rfl (AR.nil [4] rfl (AW.ret ?_)))
      cases hf
      exact ⟨rfl, _, ⟨_, _, rfl, rfl, rfl⟩, [], List.nil_sublist _, h⟩
     ·
      replace hf := ite_F h9 hf
      refine AW.skip (AW.seq (AW.sr (cs 1 rfl ?_)))
      refine AR.nil [1, 2, 6] rfl (AW.block (AW.settle [1, 2, 6] rfl (AW.loopF1 (fun i1 => [(1, .int .i64 level1), (2, .ref [.int .i64 e1.kind, .str e1.name, .int .i64 e1.value.kind, .bool e1.value.bool_, .int .i64 e1.value.int_, .str e1.value.str_, .list (ApiValue.cellsL e1.value.list_), .list (List.map strC e1.value.keys), .list (ApiExpr.cellsL e1.args), .list (List.map strC e1.keys)]), (6, .int .i64 i1)]) (fun i1 => []) (fun kk1 i1 => r10_check_l1 go_r10_check e1 level1 kk1 i1 = some r0) BIG 0 rfl rfl hf (fun _ hz => none_no hz) ?_)))
      intro kk1 i1 hf
      rw [r10_check_l1] at hf
      refine AW.seq (AW.sr (cs 3 rfl (AR.step rfl rfl rfl (AO.len_list (l := e1.args) rfl rfl rfl rfl es_26 rfl (ApiExpr.cellsL_eq _) ?_))))
      refine cs 1 rfl (AR.nil [1, 2, 6, 35] rfl (AW.cond rfl (fun h10 => ?_) (fun h10 => ?_)))
      ·
       replace hf := ite_T h10 hf
       refine AW.skip (AW.seq (AW.block (AW.sr ?_)))
       refine cs 3 rfl ?_
       obtain ⟨e2, h11, hf⟩ := bind1_inv hf
       refine AR.step rfl rfl rfl (AO.idx_list h11 rfl rfl (ApiExpr.cellsL_eq _) rfl es_26 (ApiExpr.cells_eq _) rfl (cs 3 rfl ?_))
       obtain ⟨f2, h12, hf⟩ := bind1_inv hf
       refine AR.step rfl rfl rfl (AO.call rfl _ rfl rfl pf_44 (go_r10_checkH _ _ h12 (cs 1 rfl (AR.nil [1, 2, 6, 7] rfl (AW.sr ?_)))))
       refine cs 2 rfl (AR.nil [1, 2, 6, 7, 47] rfl (AW.cond rfl (fun h13 => ?_) (fun h13 => ?_)))
       ·
        replace hf := ite_T h13 hf
        refine AW.sr (cs 2 rfl (AR.nil [4] rfl (AW.ret ?_)))
        cases hf
        exact ⟨rfl, _, ⟨_, _, rfl, rfl, rfl⟩, [], List.nil_sublist _, h⟩
       ·
        replace hf := ite_F h13 hf
        refine AW.skip (AW.region (cs 3 rfl (AR.nil [1, 2, 6] rfl ?_)))
        exact ⟨(w64 (i1 + 1)), rfl, rfl, rfl, hf⟩
      ·
       replace hf := ite_F h10 hf
       refine AW.exit (AW.sr (cs 1 rfl (AR.nil [4] rfl ?_)))
       refine AW.ret ?_
       cases hf
       exact ⟨rfl, _, ⟨_, _, rfl, rfl, rfl⟩, [], List.nil_sublist _, h⟩

theorem n_r10_check : ∀ k : Nat, (∀ (ue1 : ApiExpr) (ulevel1 : Int) {urr1x0 : Int}, r10_check_n k ue1 ulevel1 = some urr1x0 → ∀ {τ : List Res} {Q : AOut → List Res → Prop} (h : Q (.ret (.int .i64 urr1x0)) τ), AC Tryz.prog 44 [.agg [.int .i64 ue1.kind, .str ue1.name, .int .i64 ue1.value.kind, .bool ue1.value.bool_, .int .i64 ue1.value.int_, .str ue1.value.str_, .list (ApiValue.cellsL ue1.value.list_), .list (List.map strC ue1.value.keys), .list (ApiExpr.cellsL ue1.args), .list (List.map strC ue1.keys)], .int .i64 ulevel1] τ Q) := by
 intro k
 induction k with
 | zero => exact fun _ _ _ hz => by first | cases hz | (unfold r10_check_n at hz; cases hz)
 | succ k ih => exact fun ue1 ulevel1 urr1x0 hz τ Q hq => w_r10_check (r10_check_n k) ih ue1 ulevel1 hz hq
theorem c_r10_check (ue1 : ApiExpr) (ulevel1 : Int) {urr1x0 : Int} (hf : r10_check ue1 ulevel1 = some urr1x0) {τ : List Res} {Q : AOut → List Res → Prop} (h : Q (.ret (.int .i64 urr1x0)) τ) : AC Tryz.prog 44 [.agg [.int .i64 ue1.kind, .str ue1.name, .int .i64 ue1.value.kind, .bool ue1.value.bool_, .int .i64 ue1.value.int_, .str ue1.value.str_, .list (ApiValue.cellsL ue1.value.list_), .list (List.map strC ue1.value.keys), .list (ApiExpr.cellsL ue1.args), .list (List.map strC ue1.keys)], .int .i64 ulevel1] τ Q :=
 ((n_r10_check BIG)) ue1 ulevel1 hf h

theorem c_r10_Valid  (e1 : ApiExpr) {r0 : Int} (hf : r10_Valid e1 = some r0) {τ : List Res} {Q : AOut → List Res → Prop} (h : Q (.ret (.int .i64 r0)) τ) : AC Tryz.prog 20 [.agg [.int .i64 e1.kind, .str e1.name, .int .i64 e1.value.kind, .bool e1.value.bool_, .int .i64 e1.value.int_, .str e1.value.str_, .list (ApiValue.cellsL e1.value.list_), .list (List.map strC e1.value.keys), .list (ApiExpr.cellsL e1.args), .list (List.map strC e1.keys)]] τ Q := by
 unfold r10_Valid at hf
 refine AC.none (AC.of_body 8 [.tmp 2] [0] Tryz.func20 rfl rfl rfl rfl rfl (AW.sr (AR.step rfl rfl rfl (AO.box_ref rfl rfl rfl ?_))))
 refine cs 1 rfl (AR.nil [1] rfl (AW.seq (AW.sr ?_)))
 refine cs 1 rfl ?_
 obtain ⟨x1, h1, hf⟩ := bind1_inv hf
 refine AR.step rfl rfl rfl (AO.call rfl _ rfl rfl pf_13 (c_r10_Count _ h1 (cs 1 rfl (AR.nil [1, 5] rfl (AW.cond rfl (fun h2 => ?_) (fun h2 => ?_))))))
 ·
  replace hf := ite_T h2 hf
  refine AW.sr (cs 1 rfl (AR.nil [2] rfl (AW.ret ?_)))
  cases hf
  exact ⟨rfl, _, ⟨_, _, rfl, rfl, rfl⟩, [], List.nil_sublist _, h⟩
 ·
  replace hf := ite_F h2 hf
  refine AW.skip (AW.sr (cs 1 rfl ?_))
  replace hf := (bind1_ret _).trans hf
  obtain ⟨x2, h3, hf⟩ := bind1_inv hf
  refine AR.step rfl rfl rfl (AO.call rfl _ rfl rfl pf_44 (c_r10_check _ _ h3 (cs 1 rfl (AR.nil [2] rfl (AW.ret ?_)))))
  cases hf
  exact ⟨rfl, _, ⟨_, _, rfl, rfl, rfl⟩, [], List.nil_sublist _, h⟩

theorem c_r08_Plain  (kind1 : Int) {r0 : ApiType} (hf : r08_Plain kind1 = some r0) {τ : List Res} {Q : AOut → List Res → Prop} (h : Q (.ret (.agg [.int .i64 r0.kind, .list (ApiType.cellsL r0.elem)])) τ) : AC Tryz.prog 100 [.int .i64 kind1] τ Q := by
 unfold r08_Plain at hf
 refine AC.none (AC.of_body 5 [.cell 2 34] [0] Tryz.func100 rfl rfl rfl rfl rfl (AW.sr (AR.step rfl rfl rfl (AO.alloc_own rfl zp_34 (fun b2 => ?_)))))
 refine AR.nil [0, 2] rfl (AW.sr (cs 1 rfl (AR.step rfl rfl rfl (AO.build rfl zp_34 spl_34 rfl ?_))))
 refine AR.step_none rfl rfl (AO.store_box (i := 0) rfl rfl rfl ti_34 rfl rfl rfl rfl rfl (AR.nil [2] rfl (AW.ret ?_)))
 cases hf
 exact ⟨rfl, _, ⟨_, _, rfl, ⟨_, _, 0, _, _, rfl, rfl, ti_34, rfl⟩, rfl⟩, [], List.nil_sublist _, h⟩

theorem c_r08_With  (kind1 : Int) (t1 : ApiType) {r0 : ApiType} (hf : r08_With kind1 t1 = some r0) {τ : List Res} {Q : AOut → List Res → Prop} (h : Q (.ret (.agg [.int .i64 r0.kind, .list (ApiType.cellsL r0.elem)])) τ) : AC Tryz.prog 76 [.int .i64 kind1, .agg [.int .i64 t1.kind, .list (ApiType.cellsL t1.elem)]] τ Q := by
 unfold r08_With at hf
 refine AC.none (AC.of_body 9 [.cell 4 34] [0, 1] Tryz.func76 rfl rfl rfl rfl rfl (AW.sr (AR.step rfl rfl rfl (AO.box_ref rfl rfl rfl ?_))))
 refine AR.step rfl rfl rfl (AO.alloc_own rfl zp_34 (fun b4 => (AR.nil [0, 3, 4] rfl (AW.sr (cs 2 rfl ?_)))))
 refine AR.step rfl rfl rfl (AO.buildSliceF (ApiType.cellsL [t1]) rfl sf_32 rfl rfl rfl (by first | rfl | simp only [List.map, ApiType.cells_eq, ApiType.cellsL]) ?_)
 refine AR.step rfl rfl rfl (AO.build rfl zp_34 spl_34 rfl (AR.step_none rfl rfl (AO.store_box (i := 0) rfl rfl rfl ti_34 rfl rfl rfl rfl rfl (AR.nil [4] rfl (AW.ret ?_)))))
 cases hf
 exact ⟨rfl, _, ⟨_, _, rfl, ⟨_, _, 0, _, _, rfl, rfl, ti_34, rfl⟩, rfl⟩, [], List.nil_sublist _, h⟩

theorem w_r08_join (go_r08_join : ApiType → ApiType → Option ApiType) (go_r08_joinH : ∀ (ua1 : ApiType) (ub1 : ApiType) {urr1x0 : ApiType}, go_r08_join ua1 ub1 = some urr1x0 → ∀ {τ : List Res} {Q : AOut → List Res → Prop} (h : Q (.ret (.agg [.int .i64 urr1x0.kind, .list (ApiType.cellsL urr1x0.elem)])) τ), AC Tryz.prog 107 [.agg [.int .i64 ua1.kind, .list (ApiType.cellsL ua1.elem)], .agg [.int .i64 ub1.kind, .list (ApiType.cellsL ub1.elem)]] τ Q) (a1 : ApiType) (b1 : ApiType) {r0 : ApiType} (hf : r08_join_b go_r08_join a1 b1 = some r0) {τ : List Res} {Q : AOut → List Res → Prop} (h : Q (.ret (.agg [.int .i64 r0.kind, .list (ApiType.cellsL r0.elem)])) τ) : AC Tryz.prog 107 [.agg [.int .i64 a1.kind, .list (ApiType.cellsL a1.elem)], .agg [.int .i64 b1.kind, .list (ApiType.cellsL b1.elem)]] τ Q := by
 unfold r08_join_b at hf
 refine AC.none (AC.of_body 35 [.cell 4 34] [0, 1] Tryz.func107 rfl rfl rfl rfl rfl (AW.sr (AR.step rfl rfl rfl (AO.box_ref rfl rfl rfl ?_))))
 refine AR.step rfl rfl rfl (AO.box_ref rfl rfl rfl (AR.step rfl rfl rfl (AO.alloc_own rfl zp_34 (fun b4 => (AR.nil [2, 3, 4] rfl (AW.seq ?_))))))
 refine AW.sr (cs 3 rfl (AR.nil [2, 3, 4, 7] rfl (AW.cond rfl (fun h1 => ?_) (fun h1 => ?_))))
 ·
  replace hf := ite_T h1 hf
  refine AW.sr (cs 1 rfl (AR.step_none rfl rfl (AO.store_box (i := 0) rfl rfl rfl ti_34 rfl rfl rfl rfl rfl (AR.nil [4] rfl ?_))))
  refine AW.ret ?_
  cases hf
  exact ⟨rfl, _, ⟨_, _, rfl, ⟨_, _, 0, _, _, rfl, rfl, ti_34, rfl⟩, rfl⟩, [], List.nil_sublist _, h⟩
 ·
  replace hf := ite_F h1 hf
  refine AW.skip (AW.seq (AW.sr (cs 3 rfl ?_)))
  refine AR.nil [2, 3, 4, 11] rfl (AW.cond rfl (fun h2 => ?_) (fun h2 => ?_))
  ·
   replace hf := ite_T h2 hf
   refine AW.sr (cs 1 rfl (AR.step_none rfl rfl (AO.store_box (i := 0) rfl rfl rfl ti_34 rfl rfl rfl rfl rfl (AR.nil [4] rfl ?_))))
   refine AW.ret ?_
   cases hf
   exact ⟨rfl, _, ⟨_, _, rfl, ⟨_, _, 0, _, _, rfl, rfl, ti_34, rfl⟩, rfl⟩, [], List.nil_sublist _, h⟩
  ·
   replace hf := ite_F h2 hf
   refine AW.skip (AW.seq (AW.sr (cs 5 rfl ?_)))
   refine AR.nil [2, 3, 4, 17] rfl (AW.cond rfl (fun h3 => ?_) (fun h3 => ?_))
   ·
    replace hf := ite_T h3 hf
    refine AW.sr ?_
    replace hf := (bind1_ret _).trans hf
    obtain ⟨x1, h4, hf⟩ := bind1_inv hf
    refine AR.step rfl rfl rfl (AO.call rfl _ rfl rfl pf_100 (c_r08_Plain _ h4 (AR.step_none rfl rfl (AO.store_box (i := 0) rfl rfl rfl ti_34 rfl rfl rfl rfl rfl (AR.nil [4] rfl (AW.ret ?_))))))
    cases hf
    exact ⟨rfl, _, ⟨_, _, rfl, ⟨_, _, 0, _, _, rfl, rfl, ti_34, rfl⟩, rfl⟩, [], List.nil_sublist _, h⟩
   ·
    replace hf := ite_F h3 hf
    refine AW.skip (AW.seq (AW.sr (cs 2 rfl ?_)))
    obtain ⟨x2, h5, hf⟩ := bind1_inv hf
    refine AR.step rfl rfl rfl (AO.call rfl _ rfl rfl pf_95 (c_r08_holds _ h5 (AR.nil [2, 3, 4, 21] rfl (AW.cond rfl (fun h6 => ?_) (fun h6 => ?_)))))
    ·
     replace hf := ite_T h6 hf
     refine AW.seq (AW.draw 12 mixed (by kernel_rfl) rfl ?_)
     refine Ev.cs FX_ok 4 rfl ?_
     obtain ⟨e1, h7, hf⟩ := bind1_inv hf
     refine Ev.cons rfl rfl rfl (AO.idx_list h7 rfl rfl (ApiType.cellsL_eq _) rfl es_32 (ApiType.cells_eq _) rfl ⟨rfl, rfl⟩) (Ev.cs FX_ok 3 rfl ?_)
     obtain ⟨e2, h8, hf⟩ := bind1_inv hf
     refine Ev.cons rfl rfl rfl (AO.idx_list h8 rfl rfl (ApiType.cellsL_eq _) rfl es_32 (ApiType.cells_eq _) rfl ⟨rfl, rfl⟩) (Ev.cs FX_ok 1 rfl ?_)
     obtain ⟨x3, h9, hf⟩ := bind1_inv hf
     refine Ev.cons rfl rfl rfl (AO.call rfl _ rfl rfl pf_107 (go_r08_joinH _ _ h9 ⟨rfl, rfl⟩)) ?_
     replace hf := (bind1_ret _).trans hf
     obtain ⟨x4, h10, hf⟩ := bind1_inv hf
     refine Ev.cons rfl rfl rfl (AO.call rfl _ rfl rfl pf_76 (c_r08_With _ _ h10 ⟨rfl, rfl⟩)) (Ev.nil ?_)
     show AR _ _ _ _ _ _ _ _
     refine AR.step_none rfl rfl (AO.store_box (i := 0) rfl rfl rfl ti_34 rfl rfl rfl rfl rfl (AR.nil [4] rfl (AW.ret ?_)))
     cases hf
     exact ⟨rfl, _, ⟨_, _, rfl, ⟨_, _, 0, _, _, rfl, rfl, ti_34, rfl⟩, rfl⟩, [], List.nil_sublist _, h⟩
    ·
     replace hf := ite_F h6 hf
     refine AW.skip (AW.sr (cs 1 rfl (AR.step_none rfl rfl (AO.store_box (i := 0) rfl rfl rfl ti_34 rfl rfl rfl rfl rfl ?_))))
     refine AR.nil [4] rfl (AW.ret ?_)
     cases hf
     exact ⟨rfl, _, ⟨_, _, rfl, ⟨_, _, 0, _, _, rfl, rfl, ti_34, rfl⟩, rfl⟩, [], List.nil_sublist _, h⟩

theorem n_r08_join : ∀ k : Nat, (∀ (ua1 : ApiType) (ub1 : ApiType) {urr1x0 : ApiType}, r08_join_n k ua1 ub1 = some urr1x0 → ∀ {τ : List Res} {Q : AOut → List Res → Prop} (h : Q (.ret (.agg [.int .i64 urr1x0.kind, .list (ApiType.cellsL urr1x0.elem)])) τ), AC Tryz.prog 107 [.agg [.int .i64 ua1.kind, .list (ApiType.cellsL ua1.elem)], .agg [.int .i64 ub1.kind, .list (ApiType.cellsL ub1.elem)]] τ Q) := by
 intro k
 induction k with
 | zero => exact fun _ _ _ hz => by first | cases hz | (unfold r08_join_n at hz; cases hz)
 | succ k ih => exact fun ua1 ub1 urr1x0 hz τ Q hq => w_r08_join (r08_join_n k) ih ua1 ub1 hz hq
theorem c_r08_join (ua1 : ApiType) (ub1 : ApiType) {urr1x0 : ApiType} (hf : r08_join ua1 ub1 = some urr1x0) {τ : List Res} {Q : AOut → List Res → Prop} (h : Q (.ret (.agg [.int .i64 urr1x0.kind, .list (ApiType.cellsL urr1x0.elem)])) τ) : AC Tryz.prog 107 [.agg [.int .i64 ua1.kind, .list (ApiType.cellsL ua1.elem)], .agg [.int .i64 ub1.kind, .list (ApiType.cellsL ub1.elem)]] τ Q :=
 ((n_r08_join BIG)) ua1 ub1 hf h

theorem w_r08_of (go_r08_of : ApiValue → Option ApiType) (go_r08_ofH : ∀ (uv1 : ApiValue) {urr1x0 : ApiType}, go_r08_of uv1 = some urr1x0 → ∀ {τ : List Res} {Q : AOut → List Res → Prop} (h : Q (.ret (.agg [.int .i64 urr1x0.kind, .list (ApiType.cellsL urr1x0.elem)])) τ), AC Tryz.prog 101 [.agg [.int .i64 uv1.kind, .bool uv1.bool_, .int .i64 uv1.int_, .str uv1.str_, .list (ApiValue.cellsL uv1.list_), .list (List.map strC uv1.keys)]] τ Q) (v1 : ApiValue) {r0 : ApiType} (hf : r08_of_b go_r08_of v1 = some r0) {τ : List Res} {Q : AOut → List Res → Prop} (h : Q (.ret (.agg [.int .i64 r0.kind, .list (ApiType.cellsL r0.elem)])) τ) : AC Tryz.prog 101 [.agg [.int .i64 v1.kind, .bool v1.bool_, .int .i64 v1.int_, .str v1.str_, .list (ApiValue.cellsL v1.list_), .list (List.map strC v1.keys)]] τ Q := by
 unfold r08_of_b at hf
 refine AC.none (AC.of_body 42 [.cell 2 34] [0] Tryz.func101 rfl rfl rfl rfl rfl (AW.sr (AR.step rfl rfl rfl (AO.box_ref rfl rfl rfl ?_))))
 refine AR.step rfl rfl rfl (AO.alloc_own rfl zp_34 (fun b2 => (AR.nil [1, 2] rfl (AW.seq (AW.sr ?_)))))
 refine cs 2 rfl (AR.nil [1, 2, 6] rfl (AW.block (AW.sr ?_)))
 refine cs 2 rfl (AR.nil [1, 2, 6, 7] rfl (AW.cond rfl (fun h1 => ?_) (fun h1 => ?_)))
 ·
  replace hf := ite_T h1 hf
  refine AW.sr ?_
  replace hf := (bind1_ret _).trans hf
  obtain ⟨x1, h2, hf⟩ := bind1_inv hf
  refine AR.step rfl rfl rfl (AO.call rfl _ rfl rfl pf_100 (c_r08_Plain _ h2 (AR.step_none rfl rfl (AO.store_box (i := 0) rfl rfl rfl ti_34 rfl rfl rfl rfl rfl (AR.nil [2] rfl (AW.ret ?_))))))
  cases hf
  exact ⟨rfl, _, ⟨_, _, rfl, ⟨_, _, 0, _, _, rfl, rfl, ti_34, rfl⟩, rfl⟩, [], List.nil_sublist _, h⟩
 ·
  replace hf := ite_F h1 hf
  refine AW.sr (cs 2 rfl (AR.nil [1, 2, 6, 10] rfl (AW.cond rfl (fun h3 => ?_) (fun h3 => ?_))))
  ·
   replace hf := ite_T h3 hf
   refine AW.sr ?_
   replace hf := (bind1_ret _).trans hf
   obtain ⟨x2, h4, hf⟩ := bind1_inv hf
   refine AR.step rfl rfl rfl (AO.call rfl _ rfl rfl pf_100 (c_r08_Plain _ h4 (AR.step_none rfl rfl (AO.store_box (i := 0) rfl rfl rfl ti_34 rfl rfl rfl rfl rfl (AR.nil [2] rfl (AW.ret ?_))))))
   cases hf
   exact ⟨rfl, _, ⟨_, _, rfl, ⟨_, _, 0, _, _, rfl, rfl, ti_34, rfl⟩, rfl⟩, [], List.nil_sublist _, h⟩
  ·
   replace hf := ite_F h3 hf
   refine AW.sr (cs 2 rfl (AR.nil [1, 2, 6, 13] rfl (AW.cond rfl (fun h5 => ?_) (fun h5 => ?_))))
   ·
    replace hf := ite_T h5 hf
    refine AW.sr ?_
    replace hf := (bind1_ret _).trans hf
    obtain ⟨x3, h6, hf⟩ := bind1_inv hf
    refine AR.step rfl rfl rfl (AO.call rfl _ rfl rfl pf_100 (c_r08_Plain _ h6 (AR.step_none rfl rfl (AO.store_box (i := 0) rfl rfl rfl ti_34 rfl rfl rfl rfl rfl (AR.nil [2] rfl (AW.ret ?_))))))
    cases hf
    exact ⟨rfl, _, ⟨_, _, rfl, ⟨_, _, 0, _, _, rfl, rfl, ti_34, rfl⟩, rfl⟩, [], List.nil_sublist _, h⟩
   ·
    replace hf := ite_F h5 hf
    refine AW.sr (cs 2 rfl (AR.nil [1, 2, 16] rfl (AW.cond rfl (fun h7 => ?_) (fun h7 => ?_))))
    ·
     replace hf := ite_T h7 hf
     refine AW.sr ?_
     replace hf := (bind1_ret _).trans hf
     obtain ⟨x4, h8, hf⟩ := bind1_inv hf
     refine AR.step rfl rfl rfl (AO.call rfl _ rfl rfl pf_100 (c_r08_Plain _ h8 (AR.step_none rfl rfl (AO.store_box (i := 0) rfl rfl rfl ti_34 rfl rfl rfl rfl rfl (AR.nil [2] rfl (AW.ret ?_))))))
     cases hf
     exact ⟨rfl, _, ⟨_, _, rfl, ⟨_, _, 0, _, _, rfl, rfl, ti_34, rfl⟩, rfl⟩, [], List.nil_sublist _, h⟩
    ·
     replace hf := ite_F h7 hf
     refine AW.skip (AW.sr ?_)
     obtain ⟨x5, h9, hf⟩ := bind1_inv hf
     refine AR.step rfl rfl rfl (AO.call rfl _ rfl rfl pf_100 (c_r08_Plain _ h9 (AR.step rfl rfl rfl (AO.alloc_own rfl zp_34 (fun b3 => (AR.step_none rfl rfl (AO.store_box (i := 0) rfl rfl rfl ti_34 rfl rfl rfl rfl rfl (AR.nil [1, 2, 3] rfl ?_))))))))
     refine AW.seq (AW.sr (cs 1 rfl (AR.nil [1, 2, 3, 4] rfl ?_)))
     refine AW.block (AW.settle [1, 2, 3, 4] rfl (AW.loopF2 (fun i1 t1 => [(1, .ref [.int .i64 v1.kind, .bool v1.bool_, .int .i64 v1.int_, .str v1.str_, .list (ApiValue.cellsL v1.list_), .list (List.map strC v1.keys)]), (2, .val (.pointer (some ⟨b2, 0, none⟩))), (3, .val (.pointer (some ⟨b3, 0, none⟩))), (4, .int .i64 i1)]) (fun i1 t1 => [.box b3 [.int .i64 t1.kind, .list (ApiType.cellsL t1.elem)], .box b2 [.int .i64 0, .own (.slice none 0 0) []]]) (fun kk1 i1 t1 => r08_of_l1 go_r08_of v1 kk1 i1 t1 = some r0) BIG 0 x5 rfl rfl hf (fun _ _ hz => none_no hz) ?_))
     intro kk1 i1 t1 hf
     rw [r08_of_l1] at hf
     refine AW.seq (AW.sr (cs 3 rfl (AR.step rfl rfl rfl (AO.len_list (l := v1.list_) rfl rfl rfl rfl es_22 rfl (ApiValue.cellsL_eq _) ?_))))
     refine cs 1 rfl (AR.nil [1, 2, 3, 4, 24] rfl (AW.cond rfl (fun h10 => ?_) (fun h10 => ?_)))
     ·
      replace hf := ite_T h10 hf
      refine AW.skip (AW.seq (AW.block (AW.draw 8 mixed (by kernel_rfl) rfl ?_)))
      refine Ev.cons rfl rfl rfl (AO.load_box (i := 0) rfl rfl rfl ti_34 rfl rfl ⟨rfl, rfl⟩) (Ev.cs FX_ok 3 rfl ?_)
      obtain ⟨e1, h11, hf⟩ := bind1_inv hf
      refine Ev.cons rfl rfl rfl (AO.idx_list h11 rfl rfl (ApiValue.cellsL_eq _) rfl es_22 (ApiValue.cells_eq _) rfl ⟨rfl, rfl⟩) (Ev.cs FX_ok 1 rfl ?_)
      obtain ⟨x6, h12, hf⟩ := bind1_inv hf
      refine Ev.cons rfl rfl rfl (AO.call rfl _ rfl rfl pf_101 (go_r08_ofH _ h12 ⟨rfl, rfl⟩)) ?_
      obtain ⟨x7, h13, hf⟩ := bind1_inv hf
      refine Ev.cons rfl rfl rfl (AO.call rfl _ rfl rfl pf_107 (c_r08_join _ _ h13 ⟨rfl, rfl⟩)) (Ev.nil ?_)
      show AR _ _ _ _ _ _ _ _
      refine AR.step_none rfl rfl (AO.store_box (i := 0) rfl rfl rfl ti_34 rfl rfl rfl rfl rfl (AR.nil [1, 2, 3, 4] rfl (AW.region (cs 3 rfl ?_))))
      refine AR.nil [1, 2, 3, 4] rfl ?_
      exact ⟨(w64 (i1 + 1)), x7, rfl, rfl, rfl, hf⟩
     ·
      replace hf := ite_F h10 hf
      refine AW.exit (AW.seq (AW.sr (cs 3 rfl ?_)))
      refine AR.nil [2, 3, 37] rfl (AW.cond rfl (fun h14 => ?_) (fun h14 => ?_))
      ·
       replace hf := ite_T h14 hf
       refine AW.sr (AR.step rfl rfl rfl (AO.load_box (i := 0) rfl rfl rfl ti_34 rfl rfl ?_))
       replace hf := (bind1_ret _).trans hf
       obtain ⟨x8, h15, hf⟩ := bind1_inv hf
       refine AR.step rfl rfl rfl (AO.call rfl _ rfl rfl pf_76 (c_r08_With _ _ h15 (AR.step_none rfl rfl (AO.store_box (i := 1) rfl rfl rfl ti_34 rfl rfl rfl rfl rfl (AR.nil [2] rfl (AW.ret ?_))))))
       cases hf
       exact ⟨rfl, _, ⟨_, _, rfl, ⟨_, _, 1, _, _, rfl, rfl, ti_34, rfl⟩, rfl⟩, [], List.nil_sublist _, h⟩
      ·
       replace hf := ite_F h14 hf
       refine AW.skip (AW.sr (AR.step rfl rfl rfl (AO.load_box (i := 0) rfl rfl rfl ti_34 rfl rfl ?_)))
       replace hf := (bind1_ret _).trans hf
       obtain ⟨x9, h16, hf⟩ := bind1_inv hf
       refine AR.step rfl rfl rfl (AO.call rfl _ rfl rfl pf_76 (c_r08_With _ _ h16 (AR.step_none rfl rfl (AO.store_box (i := 1) rfl rfl rfl ti_34 rfl rfl rfl rfl rfl (AR.nil [2] rfl (AW.ret ?_))))))
       cases hf
       exact ⟨rfl, _, ⟨_, _, rfl, ⟨_, _, 1, _, _, rfl, rfl, ti_34, rfl⟩, rfl⟩, [], List.nil_sublist _, h⟩

theorem n_r08_of : ∀ k : Nat, (∀ (uv1 : ApiValue) {urr1x0 : ApiType}, r08_of_n k uv1 = some urr1x0 → ∀ {τ : List Res} {Q : AOut → List Res → Prop} (h : Q (.ret (.agg [.int .i64 urr1x0.kind, .list (ApiType.cellsL urr1x0.elem)])) τ), AC Tryz.prog 101 [.agg [.int .i64 uv1.kind, .bool uv1.bool_, .int .i64 uv1.int_, .str uv1.str_, .list (ApiValue.cellsL uv1.list_), .list (List.map strC uv1.keys)]] τ Q) := by
 intro k
 induction k with
 | zero => exact fun _ _ hz => by first | cases hz | (unfold r08_of_n at hz; cases hz)
 | succ k ih => exact fun uv1 urr1x0 hz τ Q hq => w_r08_of (r08_of_n k) ih uv1 hz hq
theorem c_r08_of (uv1 : ApiValue) {urr1x0 : ApiType} (hf : r08_of uv1 = some urr1x0) {τ : List Res} {Q : AOut → List Res → Prop} (h : Q (.ret (.agg [.int .i64 urr1x0.kind, .list (ApiType.cellsL urr1x0.elem)])) τ) : AC Tryz.prog 101 [.agg [.int .i64 uv1.kind, .bool uv1.bool_, .int .i64 uv1.int_, .str uv1.str_, .list (ApiValue.cellsL uv1.list_), .list (List.map strC uv1.keys)]] τ Q :=
 ((n_r08_of BIG)) uv1 hf h

theorem c_r08_Of  (v1 : ApiValue) {r0 : ApiType} (hf : r08_Of v1 = some r0) {τ : List Res} {Q : AOut → List Res → Prop} (h : Q (.ret (.agg [.int .i64 r0.kind, .list (ApiType.cellsL r0.elem)])) τ) : AC Tryz.prog 68 [.agg [.int .i64 v1.kind, .bool v1.bool_, .int .i64 v1.int_, .str v1.str_, .list (ApiValue.cellsL v1.list_), .list (List.map strC v1.keys)]] τ Q := by
 unfold r08_Of at hf
 refine AC.none (AC.of_body 9 [.cell 2 34] [0] Tryz.func68 rfl rfl rfl rfl rfl (AW.sr (AR.step rfl rfl rfl (AO.box_ref rfl rfl rfl ?_))))
 refine AR.step rfl rfl rfl (AO.alloc_own rfl zp_34 (fun b2 => (AR.nil [1, 2] rfl (AW.seq (AW.sr ?_)))))
 refine cs 1 rfl ?_
 obtain ⟨x1, h1, hf⟩ := bind1_inv hf
 refine AR.step rfl rfl rfl (AO.call rfl _ rfl rfl pf_66 (c_r07_Valid _ h1 (cs 1 rfl (AR.nil [1, 2, 5] rfl (AW.cond rfl (fun h2 => ?_) (fun h2 => ?_))))))
 ·
  replace hf := ite_T h2 hf
  refine AW.sr ?_
  replace hf := (bind1_ret _).trans hf
  obtain ⟨x2, h3, hf⟩ := bind1_inv hf
  refine AR.step rfl rfl rfl (AO.call rfl _ rfl rfl pf_100 (c_r08_Plain _ h3 (AR.step_none rfl rfl (AO.store_box (i := 0) rfl rfl rfl ti_34 rfl rfl rfl rfl rfl (AR.nil [2] rfl (AW.ret ?_))))))
  cases hf
  exact ⟨rfl, _, ⟨_, _, rfl, ⟨_, _, 0, _, _, rfl, rfl, ti_34, rfl⟩, rfl⟩, [], List.nil_sublist _, h⟩
 ·
  replace hf := ite_F h2 hf
  refine AW.skip (AW.sr (cs 1 rfl ?_))
  replace hf := (bind1_ret _).trans hf
  obtain ⟨x3, h4, hf⟩ := bind1_inv hf
  refine AR.step rfl rfl rfl (AO.call rfl _ rfl rfl pf_101 (c_r08_of _ h4 (AR.step_none rfl rfl (AO.store_box (i := 0) rfl rfl rfl ti_34 rfl rfl rfl rfl rfl (AR.nil [2] rfl (AW.ret ?_))))))
  cases hf
  exact ⟨rfl, _, ⟨_, _, rfl, ⟨_, _, 0, _, _, rfl, rfl, ti_34, rfl⟩, rfl⟩, [], List.nil_sublist _, h⟩

theorem c_r11_leaf  (e1 : ApiExpr) (env1 : List ApiDecl) {r0 : ApiType} {r1 : Int} (hf : r11_leaf e1 env1 = some (r0, r1)) {τ : List Res} {Q : AOut → List Res → Prop} (h : Q (.ret (.tuple [.agg [.int .i64 r0.kind, .list (ApiType.cellsL r0.elem)], .int .i64 r1])) τ) : AC Tryz.prog 45 [.agg [.int .i64 e1.kind, .str e1.name, .int .i64 e1.value.kind, .bool e1.value.bool_, .int .i64 e1.value.int_, .str e1.value.str_, .list (ApiValue.cellsL e1.value.list_), .list (List.map strC e1.value.keys), .list (ApiExpr.cellsL e1.args), .list (List.map strC e1.keys)], .list (List.map ApiDecl.cells env1)] τ Q := by
 unfold r11_leaf at hf
 refine AC.none (AC.of_body 33 [.cell 4 34, .tmp 5] [0, 1] Tryz.func45 rfl rfl rfl rfl rfl (AW.sr (AR.step rfl rfl rfl (AO.box_ref rfl rfl rfl ?_))))
 refine AR.step rfl rfl rfl (AO.alloc_own rfl zp_34 (fun b4 => (cs 1 rfl (AR.nil [1, 2, 4] rfl (AW.seq ?_)))))
 refine AW.sr (cs 3 rfl (AR.nil [1, 2, 4, 9] rfl (AW.cond rfl (fun h1 => ?_) (fun h1 => ?_))))
 ·
  replace hf := ite_T h1 hf
  refine AW.sr (cs 2 rfl ?_)
  obtain ⟨x1, h2, hf⟩ := bind1_inv hf
  refine AR.step rfl rfl rfl (AO.call rfl _ rfl rfl pf_68 (c_r08_Of _ h2 (AR.step_none rfl rfl (AO.store_box (i := 0) rfl rfl rfl ti_34 rfl rfl rfl rfl rfl (cs 1 rfl (AR.nil [4, 5] rfl ?_))))))
  refine AW.ret ?_
  cases hf
  exact ⟨rfl, _, ⟨_, _, rfl, ⟨_, _, 0, _, _, rfl, rfl, ti_34, rfl⟩, _, _, rfl, rfl, rfl⟩, [], List.nil_sublist _, h⟩
 ·
  replace hf := ite_F h1 hf
  refine AW.skip (AW.seq (AW.sr (cs 1 rfl ?_)))
  refine AR.nil [1, 2, 4, 6] rfl (AW.block (AW.settle [1, 2, 4, 6] rfl (AW.loopF1 (fun i1 => [(1, .list (List.map ApiDecl.cells env1)), (2, .ref [.int .i64 e1.kind, .str e1.name, .int .i64 e1.value.kind, .bool e1.value.bool_, .int .i64 e1.value.int_, .str e1.value.str_, .list (ApiValue.cellsL e1.value.list_), .list (List.map strC e1.value.keys), .list (ApiExpr.cellsL e1.args), .list (List.map strC e1.keys)]), (4, .val (.pointer (some ⟨b4, 0, none⟩))), (6, .int .i64 i1)]) (fun i1 => [.box b4 [.int .i64 0, .own (.slice none 0 0) []]]) (fun kk1 i1 => r11_leaf_l1 e1 env1 kk1 i1 = some (r0, r1)) BIG 0 rfl rfl hf (fun _ hz => none_no hz) ?_)))
  intro kk1 i1 hf
  rw [r11_leaf_l1] at hf
  refine AW.seq (AW.sr (cs 2 rfl (AR.step rfl rfl rfl (AO.len_list (l := env1) rfl rfl rfl rfl es_29 rfl rfl ?_))))
  refine cs 1 rfl (AR.nil [1, 2, 4, 6, 16] rfl (AW.cond rfl (fun h3 => ?_) (fun h3 => ?_)))
  ·
   replace hf := ite_T h3 hf
   refine AW.skip (AW.seq (AW.block (AW.seq ?_)))
   refine AW.draw 8 mixed (by kernel_rfl) rfl ?_
   refine Ev.cs FX_ok 2 rfl ?_
   obtain ⟨e2, h4, hf⟩ := bind1_inv hf
   refine Ev.cons rfl rfl rfl (AO.idx_list h4 rfl rfl rfl rfl es_29 (ApiDecl.cells_eq _) rfl ⟨rfl, rfl⟩) (Ev.cs FX_ok 5 rfl (Ev.nil ?_))
   show AR _ _ _ _ _ _ _ _
   refine AR.nil [1, 2, 4, 6, 26] rfl (AW.cond rfl (fun h5 => ?_) (fun h5 => ?_))
   ·
    replace hf := ite_T h5 hf
    refine AW.sr (cs 2 rfl ?_)
    obtain ⟨e3, h6, hf⟩ := bind1_inv hf
    refine AR.step rfl rfl rfl (AO.idx_list h6 rfl rfl rfl rfl es_29 (ApiDecl.cells_eq _) rfl (cs 2 rfl (AR.step_none rfl rfl (AO.store_box (i := 0) rfl rfl rfl ti_34 rfl rfl rfl rfl rfl (cs 1 rfl ?_)))))
    refine AR.nil [4, 5] rfl (AW.ret ?_)
    cases hf
    exact ⟨rfl, _, ⟨_, _, rfl, ⟨_, _, 0, _, _, rfl, rfl, ti_34, rfl⟩, _, _, rfl, rfl, rfl⟩, [], List.nil_sublist _, h⟩
   ·
    replace hf := ite_F h5 hf
    refine AW.skip (AW.region (cs 3 rfl (AR.nil [1, 2, 4, 6] rfl ?_)))
    exact ⟨(w64 (i1 + 1)), rfl, rfl, rfl, hf⟩
  ·
   replace hf := ite_F h3 hf
   refine AW.exit (AW.sr (AR.step rfl rfl rfl (AO.build rfl zp_34 spl_34 rfl (AR.step_none rfl rfl (AO.store_box (i := 0) rfl rfl rfl ti_34 rfl rfl rfl rfl rfl ?_)))))
   refine cs 1 rfl (AR.nil [4, 5] rfl (AW.ret ?_))
   cases hf
   exact ⟨rfl, _, ⟨_, _, rfl, ⟨_, _, 0, _, _, rfl, rfl, ti_34, rfl⟩, _, _, rfl, rfl, rfl⟩, [], List.nil_sublist _, h⟩

theorem c_r11_Args  (name1 : Str) {r0 : Int} (hf : r11_Args name1 = some r0) {τ : List Res} {Q : AOut → List Res → Prop} (h : Q (.ret (.int .i64 r0)) τ) : AC Tryz.prog 46 [.str name1] τ Q := by
 unfold r11_Args at hf
 refine AC.none (AC.of_body 18 [.tmp 2] [0] Tryz.func46 rfl rfl rfl rfl rfl (AW.sr (cs 1 rfl ?_)))
 refine AR.nil [0] rfl (AW.seq (AW.sr (cs 1 rfl ?_)))
 refine AR.nil [3] rfl (AW.block (AW.seq (AW.sr ?_)))
 refine cs 2 rfl (AR.nil [3, 4] rfl (AW.cond rfl (fun h1 => ?_) (fun h1 => ?_)))
 ·
  replace hf := ite_T h1 hf
  refine AW.skip (AW.cond rfl (fun h2 => ?_) (fun h2 => ?_))
  ·
   refine AW.sr (cs 1 rfl (AR.nil [2] rfl (AW.ret ?_)))
   cases hf
   exact ⟨rfl, _, ⟨_, _, rfl, rfl, rfl⟩, [], List.nil_sublist _, h⟩
  ·
   cases h1.symm.trans h2
 ·
  replace hf := ite_F h1 hf
  refine AW.sr (cs 2 rfl (AR.nil [3, 4] rfl (AW.cond rfl (fun h3 => ?_) (fun h3 => ?_))))
  ·
   replace hf := ite_T h3 hf
   refine AW.skip (AW.cond rfl (fun h4 => ?_) (fun h4 => ?_))
   ·
    refine AW.sr (cs 1 rfl (AR.nil [2] rfl (AW.ret ?_)))
    cases hf
    exact ⟨rfl, _, ⟨_, _, rfl, rfl, rfl⟩, [], List.nil_sublist _, h⟩
   ·
    cases h3.symm.trans h4
  ·
   replace hf := ite_F h3 hf
   refine AW.sr (cs 2 rfl (AR.nil [3, 4] rfl (AW.cond rfl (fun h5 => ?_) (fun h5 => ?_))))
   ·
    replace hf := ite_T h5 hf
    refine AW.skip (AW.cond rfl (fun h6 => ?_) (fun h6 => ?_))
    ·
     refine AW.sr (cs 1 rfl (AR.nil [2] rfl (AW.ret ?_)))
     cases hf
     exact ⟨rfl, _, ⟨_, _, rfl, rfl, rfl⟩, [], List.nil_sublist _, h⟩
    ·
     cases h5.symm.trans h6
   ·
    replace hf := ite_F h5 hf
    refine AW.sr (cs 2 rfl (AR.nil [3, 4] rfl (AW.cond rfl (fun h7 => ?_) (fun h7 => ?_))))
    ·
     replace hf := ite_T h7 hf
     refine AW.skip (AW.cond rfl (fun h8 => ?_) (fun h8 => ?_))
     ·
      refine AW.sr (cs 1 rfl (AR.nil [2] rfl (AW.ret ?_)))
      cases hf
      exact ⟨rfl, _, ⟨_, _, rfl, rfl, rfl⟩, [], List.nil_sublist _, h⟩
     ·
      cases h7.symm.trans h8
    ·
     replace hf := ite_F h7 hf
     refine AW.sr (cs 2 rfl (AR.nil [3, 4] rfl (AW.cond rfl (fun h9 => ?_) (fun h9 => ?_))))
     ·
      replace hf := ite_T h9 hf
      refine AW.skip (AW.cond rfl (fun h10 => ?_) (fun h10 => ?_))
      ·
       refine AW.sr (cs 1 rfl (AR.nil [2] rfl (AW.ret ?_)))
       cases hf
       exact ⟨rfl, _, ⟨_, _, rfl, rfl, rfl⟩, [], List.nil_sublist _, h⟩
      ·
       cases h9.symm.trans h10
     ·
      replace hf := ite_F h9 hf
      refine AW.region (cs 2 rfl (AR.nil [3, 4] rfl (AW.cond rfl (fun h11 => ?_) (fun h11 => ?_))))
      ·
       replace hf := ite_T h11 hf
       refine AW.sr (cs 1 rfl (AR.nil [2] rfl (AW.ret ?_)))
       cases hf
       exact ⟨rfl, _, ⟨_, _, rfl, rfl, rfl⟩, [], List.nil_sublist _, h⟩
      ·
       replace hf := ite_F h11 hf
       refine AW.seq (AW.sr (cs 2 rfl (AR.nil [3, 11] rfl ?_)))
       refine AW.cond rfl (fun h12 => ?_) (fun h12 => ?_)
       ·
        replace hf := ite_T h12 hf
        refine AW.skip (AW.cond rfl (fun h13 => ?_) (fun h13 => ?_))
        ·
         refine AW.sr (cs 1 rfl (AR.nil [2] rfl (AW.ret ?_)))
         cases hf
         exact ⟨rfl, _, ⟨_, _, rfl, rfl, rfl⟩, [], List.nil_sublist _, h⟩
        ·
         cases h12.symm.trans h13
       ·
        replace hf := ite_F h12 hf
        refine AW.sr (cs 2 rfl (AR.nil [3, 11] rfl (AW.cond rfl (fun h14 => ?_) (fun h14 => ?_))))
        ·
         replace hf := ite_T h14 hf
         refine AW.skip (AW.cond rfl (fun h15 => ?_) (fun h15 => ?_))
         ·
          refine AW.sr (cs 1 rfl (AR.nil [2] rfl (AW.ret ?_)))
          cases hf
          exact ⟨rfl, _, ⟨_, _, rfl, rfl, rfl⟩, [], List.nil_sublist _, h⟩
         ·
          cases h14.symm.trans h15
        ·
         replace hf := ite_F h14 hf
         refine AW.sr (cs 2 rfl (AR.nil [3, 11] rfl (AW.cond rfl (fun h16 => ?_) (fun h16 => ?_))))
         ·
          replace hf := ite_T h16 hf
          refine AW.skip (AW.cond rfl (fun h17 => ?_) (fun h17 => ?_))
          ·
           refine AW.sr (cs 1 rfl (AR.nil [2] rfl (AW.ret ?_)))
           cases hf
           exact ⟨rfl, _, ⟨_, _, rfl, rfl, rfl⟩, [], List.nil_sublist _, h⟩
          ·
           cases h16.symm.trans h17
         ·
          replace hf := ite_F h16 hf
          refine AW.sr (cs 2 rfl (AR.nil [3, 11] rfl (AW.cond rfl (fun h18 => ?_) (fun h18 => ?_))))
          ·
           replace hf := ite_T h18 hf
           refine AW.skip (AW.cond rfl (fun h19 => ?_) (fun h19 => ?_))
           ·
            refine AW.sr (cs 1 rfl (AR.nil [2] rfl (AW.ret ?_)))
            cases hf
            exact ⟨rfl, _, ⟨_, _, rfl, rfl, rfl⟩, [], List.nil_sublist _, h⟩
           ·
            cases h18.symm.trans h19
          ·
           replace hf := ite_F h18 hf
           refine AW.sr (cs 2 rfl (AR.nil [3, 11] rfl (AW.cond rfl (fun h20 => ?_) (fun h20 => ?_))))
           ·
            replace hf := ite_T h20 hf
            refine AW.skip (AW.cond rfl (fun h21 => ?_) (fun h21 => ?_))
            ·
             refine AW.sr (cs 1 rfl (AR.nil [2] rfl (AW.ret ?_)))
             cases hf
             exact ⟨rfl, _, ⟨_, _, rfl, rfl, rfl⟩, [], List.nil_sublist _, h⟩
            ·
             cases h20.symm.trans h21
           ·
            replace hf := ite_F h20 hf
            refine AW.region (cs 2 rfl (AR.nil [11] rfl (AW.cond rfl (fun h22 => ?_) (fun h22 => ?_))))
            ·
             replace hf := ite_T h22 hf
             refine AW.sr (cs 1 rfl (AR.nil [2] rfl (AW.ret ?_)))
             cases hf
             exact ⟨rfl, _, ⟨_, _, rfl, rfl, rfl⟩, [], List.nil_sublist _, h⟩
            ·
             replace hf := ite_F h22 hf
             refine AW.skip (AW.sr (cs 1 rfl (AR.nil [2] rfl ?_)))
             refine AW.ret ?_
             cases hf
             exact ⟨rfl, _, ⟨_, _, rfl, rfl, rfl⟩, [], List.nil_sublist _, h⟩

theorem c_r11_loose  (t1 : ApiType) {r0 : Bool} (hf : r11_loose t1 = some r0) {τ : List Res} {Q : AOut → List Res → Prop} (h : Q (.ret (.bool r0)) τ) : AC Tryz.prog 69 [.agg [.int .i64 t1.kind, .list (ApiType.cellsL t1.elem)]] τ Q := by
 unfold r11_loose at hf
 refine AC.none (AC.of_body 11 [.tmp 2] [0] Tryz.func69 rfl rfl rfl rfl rfl (AW.sr (AR.step rfl rfl rfl (AO.box_ref rfl rfl rfl ?_))))
 refine cs 1 rfl (AR.nil [1] rfl (AW.sr (cs 4 rfl ?_)))
 refine AR.or 4 6 10 [] (x := (t1.kind == 7)) rfl rfl (fun h1 => ?_) (fun h1 => ?_) ?_
 ·
  refine AR.is 6 h1 rfl (cs 4 rfl (AR.nil [10] rfl ?_))
  exact ⟨rfl, rfl, rfl, rfl⟩
 ·
  refine AR.is 6 h1 rfl (cs 4 rfl (AR.nil [10] rfl ?_))
  exact ⟨rfl, rfl, rfl, rfl⟩
 refine cs 1 rfl (AR.nil [2] rfl (AW.ret ?_))
 cases hf
 exact ⟨rfl, _, ⟨_, _, rfl, rfl, rfl⟩, [], List.nil_sublist _, h⟩

theorem c_r11_plain  (kind1 : Int) {r0 : ApiType} (hf : r11_plain kind1 = some r0) {τ : List Res} {Q : AOut → List Res → Prop} (h : Q (.ret (.agg [.int .i64 r0.kind, .list (ApiType.cellsL r0.elem)])) τ) : AC Tryz.prog 72 [.int .i64 kind1] τ Q := by
 unfold r11_plain at hf
 refine AC.none (AC.of_body 5 [.cell 2 34] [0] Tryz.func72 rfl rfl rfl rfl rfl (AW.sr (AR.step rfl rfl rfl (AO.alloc_own rfl zp_34 (fun b2 => ?_)))))
 refine AR.nil [0, 2] rfl (AW.sr (cs 1 rfl ?_))
 replace hf := (bind1_ret _).trans hf
 obtain ⟨x1, h1, hf⟩ := bind1_inv hf
 refine AR.step rfl rfl rfl (AO.call rfl _ rfl rfl pf_100 (c_r08_Plain _ h1 (AR.step_none rfl rfl (AO.store_box (i := 0) rfl rfl rfl ti_34 rfl rfl rfl rfl rfl (AR.nil [2] rfl (AW.ret ?_))))))
 cases hf
 exact ⟨rfl, _, ⟨_, _, rfl, ⟨_, _, 0, _, _, rfl, rfl, ti_34, rfl⟩, rfl⟩, [], List.nil_sublist _, h⟩

theorem w_r11_Compatible (go_r11_Compatible : ApiType → ApiType → Option Bool) (go_r11_CompatibleH : ∀ (ut1 : ApiType) (uu1 : ApiType) {urr1x0 : Bool}, go_r11_Compatible ut1 uu1 = some urr1x0 → ∀ {τ : List Res} {Q : AOut → List Res → Prop} (h : Q (.ret (.bool urr1x0)) τ), AC Tryz.prog 102 [.agg [.int .i64 ut1.kind, .list (ApiType.cellsL ut1.elem)], .agg [.int .i64 uu1.kind, .list (ApiType.cellsL uu1.elem)]] τ Q) (t1 : ApiType) (u1 : ApiType) {r0 : Bool} (hf : r11_Compatible_b go_r11_Compatible t1 u1 = some r0) {τ : List Res} {Q : AOut → List Res → Prop} (h : Q (.ret (.bool r0)) τ) : AC Tryz.prog 102 [.agg [.int .i64 t1.kind, .list (ApiType.cellsL t1.elem)], .agg [.int .i64 u1.kind, .list (ApiType.cellsL u1.elem)]] τ Q := by
 unfold r11_Compatible_b at hf
 refine AC.none (AC.of_body 32 [.tmp 4] [0, 1] Tryz.func102 rfl rfl rfl rfl rfl (AW.sr (AR.step rfl rfl rfl (AO.box_ref rfl rfl rfl ?_))))
 refine AR.step rfl rfl rfl (AO.box_ref rfl rfl rfl (cs 1 rfl (AR.nil [2, 3] rfl (AW.seq ?_))))
 refine AW.sr (cs 1 rfl ?_)
 obtain ⟨x1, h1, hf⟩ := bind1_inv hf
 refine AR.step rfl rfl rfl (AO.call rfl _ rfl rfl pf_69 (c_r11_loose _ h1 (cs 1 rfl (AR.or 4 7 11 [2, 3] (x := (u1.kind == 0)) rfl rfl (fun h2 => ?_) (fun h2 => ?_) ?_))))
 ·
  refine AR.is 7 h2 rfl (cs 4 rfl (AR.nil [11, 2, 3] rfl ?_))
  exact ⟨rfl, rfl, rfl, rfl⟩
 ·
  refine AR.is 7 h2 rfl (cs 4 rfl (AR.nil [11, 2, 3] rfl ?_))
  exact ⟨rfl, rfl, rfl, rfl⟩
 refine AR.nil [2, 3, 11] rfl (AW.cond rfl (fun h3 => ?_) (fun h3 => ?_))
 ·
  replace hf := ite_T h3 hf
  refine AW.sr (cs 1 rfl (AR.nil [4] rfl (AW.ret ?_)))
  cases hf
  exact ⟨rfl, _, ⟨_, _, rfl, rfl, rfl⟩, [], List.nil_sublist _, h⟩
 ·
  replace hf := ite_F h3 hf
  refine AW.skip (AW.seq (AW.sr (cs 5 rfl ?_)))
  refine AR.nil [2, 3, 16] rfl (AW.cond rfl (fun h4 => ?_) (fun h4 => ?_))
  ·
   replace hf := ite_T h4 hf
   refine AW.sr (cs 1 rfl (AR.nil [4] rfl (AW.ret ?_)))
   cases hf
   exact ⟨rfl, _, ⟨_, _, rfl, rfl, rfl⟩, [], List.nil_sublist _, h⟩
  ·
   replace hf := ite_F h4 hf
   refine AW.skip (AW.seq (AW.draw 16 mixed (by kernel_rfl) rfl ?_))
   refine Ev.cs FX_ok 2 rfl (Ev.cons rfl rfl rfl (AO.len_list (l := t1.elem) rfl rfl rfl rfl es_32 rfl (ApiType.cellsL_eq _) ⟨rfl, rfl⟩) (Ev.cs FX_ok 2 rfl ?_))
   replace hf := (bind1_ret _).trans hf
   obtain ⟨b1, h6, hf⟩ := bind1_inv hf
   refine Ev.join1 hKA 10 21 31 false [] (.bool b1) rfl rfl (fun h5 => ?_) (fun h5 => ?_) ?_
   ·
    replace h6 := ite_F h5 h6
    refine Ev.is hKL 21 h5 rfl (Ev.cs FX_ok 2 rfl ?_)
    obtain ⟨e1, h7, h6⟩ := bind1_inv h6
    refine Ev.run rfl rfl rfl rfl rfl rfl rfl (AO.idx_list h7 rfl rfl (ApiType.cellsL_eq _) rfl es_32 (ApiType.cells_eq _) rfl ⟨rfl, rfl⟩) (Ev.cs FX_ok 3 rfl ?_)
    obtain ⟨e2, h8, h6⟩ := bind1_inv h6
    refine Ev.run rfl rfl rfl rfl rfl rfl rfl (AO.idx_list h8 rfl rfl (ApiType.cellsL_eq _) rfl es_32 (ApiType.cells_eq _) rfl ⟨rfl, rfl⟩) (Ev.cs FX_ok 1 rfl ?_)
    replace h6 := (bind1_ret _).trans h6
    obtain ⟨x2, h9, h6⟩ := bind1_inv h6
    refine Ev.run rfl rfl rfl rfl rfl rfl rfl (AO.call rfl _ rfl rfl pf_102 (go_r11_CompatibleH _ _ h9 ⟨rfl, rfl⟩)) ?_
    obtain rfl := Option.some.inj h6
    refine Ev.cs FX_ok 1 rfl ?_
    exact Ev.nil (Less.settle (ps := [31]) rfl)
   ·
    replace h6 := ite_T h5 h6
    refine Ev.is hKL 21 h5 rfl ?_
    obtain rfl := Option.some.inj h6
    refine Ev.cs FX_ok 10 rfl ?_
    exact Ev.nil (Less.settle (ps := [31]) rfl)
   refine Ev.cs FX_ok 1 rfl (Ev.nil ?_)
   show AR _ _ _ _ _ _ _ _
   refine AR.nil [4] rfl (AW.ret ?_)
   cases hf
   exact ⟨rfl, _, ⟨_, _, rfl, rfl, rfl⟩, [], List.nil_sublist _, h⟩

theorem n_r11_Compatible : ∀ k : Nat, (∀ (ut1 : ApiType) (uu1 : ApiType) {urr1x0 : Bool}, r11_Compatible_n k ut1 uu1 = some urr1x0 → ∀ {τ : List Res} {Q : AOut → List Res → Prop} (h : Q (.ret (.bool urr1x0)) τ), AC Tryz.prog 102 [.agg [.int .i64 ut1.kind, .list (ApiType.cellsL ut1.elem)], .agg [.int .i64 uu1.kind, .list (ApiType.cellsL uu1.elem)]] τ Q) := by
 intro k
 induction k with
 | zero => exact fun _ _ _ hz => by first | cases hz | (unfold r11_Compatible_n at hz; cases hz)
 | succ k ih => exact fun ut1 uu1 urr1x0 hz τ Q hq => w_r11_Compatible (r11_Compatible_n k) ih ut1 uu1 hz hq
theorem c_r11_Compatible (ut1 : ApiType) (uu1 : ApiType) {urr1x0 : Bool} (hf : r11_Compatible ut1 uu1 = some urr1x0) {τ : List Res} {Q : AOut → List Res → Prop} (h : Q (.ret (.bool urr1x0)) τ) : AC Tryz.prog 102 [.agg [.int .i64 ut1.kind, .list (ApiType.cellsL ut1.elem)], .agg [.int .i64 uu1.kind, .list (ApiType.cellsL uu1.elem)]] τ Q :=
 ((n_r11_Compatible BIG)) ut1 uu1 hf h

theorem c_r11_is  (t1 : ApiType) (kind1 : Int) {r0 : Bool} (hf : r11_is t1 kind1 = some r0) {τ : List Res} {Q : AOut → List Res → Prop} (h : Q (.ret (.bool r0)) τ) : AC Tryz.prog 73 [.agg [.int .i64 t1.kind, .list (ApiType.cellsL t1.elem)], .int .i64 kind1] τ Q := by
 unfold r11_is at hf
 refine AC.none (AC.of_body 9 [.tmp 4] [0, 1] Tryz.func73 rfl rfl rfl rfl rfl (AW.sr (AR.step rfl rfl rfl (AO.box_ref rfl rfl rfl ?_))))
 refine cs 1 rfl (AR.nil [1, 2] rfl (AW.seq (AW.draw 5 mixed (by kernel_rfl) rfl ?_)))
 refine Ev.cs FX_ok 2 rfl ?_
 obtain ⟨x1, h1, hf⟩ := bind1_inv hf
 refine Ev.cons rfl rfl rfl (AO.call rfl _ rfl rfl pf_72 (c_r11_plain _ h1 ⟨rfl, rfl⟩)) ?_
 replace hf := (bind1_ret _).trans hf
 obtain ⟨x2, h2, hf⟩ := bind1_inv hf
 refine Ev.cons rfl rfl rfl (AO.call rfl _ rfl rfl pf_102 (c_r11_Compatible _ _ h2 ⟨rfl, rfl⟩)) (Ev.cs FX_ok 1 rfl (Ev.nil ?_))
 show AR _ _ _ _ _ _ _ _
 refine AR.nil [4] rfl (AW.ret ?_)
 cases hf
 exact ⟨rfl, _, ⟨_, _, rfl, rfl, rfl⟩, [], List.nil_sublist _, h⟩

theorem c_r11_index  (a1 : ApiType) (b1 : ApiType) {r0 : ApiType} {r1 : Bool} (hf : r11_index a1 b1 = some (r0, r1)) {τ : List Res} {Q : AOut → List Res → Prop} (h : Q (.ret (.tuple [.agg [.int .i64 r0.kind, .list (ApiType.cellsL r0.elem)], .bool r1])) τ) : AC Tryz.prog 70 [.agg [.int .i64 a1.kind, .list (ApiType.cellsL a1.elem)], .agg [.int .i64 b1.kind, .list (ApiType.cellsL b1.elem)]] τ Q := by
 unfold r11_index at hf
 refine AC.none (AC.of_body 37 [.cell 4 34, .tmp 5] [0, 1] Tryz.func70 rfl rfl rfl rfl rfl (AW.sr (AR.step rfl rfl rfl (AO.box_ref rfl rfl rfl ?_))))
 refine AR.step rfl rfl rfl (AO.box_ref rfl rfl rfl (AR.step rfl rfl rfl (AO.alloc_own rfl zp_34 (fun b4 => (cs 1 rfl (AR.nil [2, 3, 4] rfl ?_))))))
 refine AW.seq (AW.block (AW.sr (cs 4 rfl ?_)))
 refine AR.nil [2, 3, 4, 6] rfl (AW.cond rfl (fun h1 => ?_) (fun h1 => ?_))
 ·
  replace hf := ite_T h1 hf
  refine AW.seq (AW.draw 6 mixed (by kernel_rfl) rfl ?_)
  refine Ev.cs FX_ok 2 rfl ?_
  obtain ⟨e1, h2, hf⟩ := bind1_inv hf
  refine Ev.cons rfl rfl rfl (AO.idx_list h2 rfl rfl (ApiType.cellsL_eq _) rfl es_32 (ApiType.cells_eq _) rfl ⟨rfl, rfl⟩) (Ev.cs FX_ok 2 rfl ?_)
  obtain ⟨x1, h3, hf⟩ := bind1_inv hf
  refine Ev.cons rfl rfl rfl (AO.call rfl _ rfl rfl pf_73 (c_r11_is _ _ h3 ⟨rfl, rfl⟩)) (Ev.nil ?_)
  show AR _ _ _ _ _ _ _ _
  refine AR.step_none rfl rfl (AO.store_box (i := 0) rfl rfl rfl ti_34 rfl rfl rfl rfl rfl (cs 1 rfl (AR.nil [4, 5] rfl (AW.ret ?_))))
  cases hf
  exact ⟨rfl, _, ⟨_, _, rfl, ⟨_, _, 0, _, _, rfl, rfl, ti_34, rfl⟩, _, _, rfl, rfl, rfl⟩, [], List.nil_sublist _, h⟩
 ·
  replace hf := ite_F h1 hf
  refine AW.sr (cs 4 rfl (AR.nil [2, 3, 4, 16] rfl (AW.cond rfl (fun h4 => ?_) (fun h4 => ?_))))
  ·
   replace hf := ite_T h4 hf
   refine AW.seq (AW.draw 6 mixed (by kernel_rfl) rfl ?_)
   refine Ev.cs FX_ok 2 rfl ?_
   obtain ⟨e2, h5, hf⟩ := bind1_inv hf
   refine Ev.cons rfl rfl rfl (AO.idx_list h5 rfl rfl (ApiType.cellsL_eq _) rfl es_32 (ApiType.cells_eq _) rfl ⟨rfl, rfl⟩) (Ev.cs FX_ok 2 rfl ?_)
   obtain ⟨x2, h6, hf⟩ := bind1_inv hf
   refine Ev.cons rfl rfl rfl (AO.call rfl _ rfl rfl pf_73 (c_r11_is _ _ h6 ⟨rfl, rfl⟩)) (Ev.nil ?_)
   show AR _ _ _ _ _ _ _ _
   refine AR.step_none rfl rfl (AO.store_box (i := 0) rfl rfl rfl ti_34 rfl rfl rfl rfl rfl (cs 1 rfl (AR.nil [4, 5] rfl (AW.ret ?_))))
   cases hf
   exact ⟨rfl, _, ⟨_, _, rfl, ⟨_, _, 0, _, _, rfl, rfl, ti_34, rfl⟩, _, _, rfl, rfl, rfl⟩, [], List.nil_sublist _, h⟩
  ·
   replace hf := ite_F h4 hf
   refine AW.skip (AW.seq (AW.drawG 4 11 12 0 mixed (by kernel_rfl) (by kernel_rfl) (by kernel_rfl) rfl rfl rfl rfl ?_))
   refine Ev.cs FX_ok 2 rfl ?_
   obtain ⟨x3, h7, hf⟩ := bind1_inv hf
   refine Ev.cons rfl rfl rfl (AO.call rfl _ rfl rfl pf_69 (c_r11_loose _ h7 ⟨rfl, rfl⟩)) (Ev.cs FX_ok 1 rfl (Ev.nil ?_))
   show Ev _ _ _ _ _ _ _
   obtain ⟨b2, h9, hf⟩ := bind1_inv hf
   refine Ev.join1 hKT 7 29 36 true [4, 26] (.bool b2) rfl rfl (fun h8 => ?_) (fun h8 => ?_) ?_
   ·
    replace h9 := ite_T h8 h9
    refine Ev.is hKL 29 h8 rfl (Ev.cs FX_ok 1 rfl ?_)
    obtain ⟨x4, h10, h9⟩ := bind1_inv h9
    refine Ev.run rfl rfl rfl rfl rfl rfl rfl (AO.call rfl _ rfl rfl pf_73 (c_r11_is _ _ h10 ⟨rfl, rfl⟩)) (Ev.cs FX_ok 1 rfl ?_)
    replace h9 := (bind1_ret _).trans h9
    obtain ⟨b3, h12, h9⟩ := bind1_inv h9
    refine Ev.join1 hKL 3 32 35 false [4, 26, 29] (.bool b3) rfl rfl (fun h11 => ?_) (fun h11 => ?_) ?_
    ·
     replace h12 := ite_F h11 h12
     refine Ev.is hKL 32 h11 rfl (Ev.cs FX_ok 1 rfl ?_)
     replace h12 := (bind1_ret _).trans h12
     obtain ⟨x5, h13, h12⟩ := bind1_inv h12
     refine Ev.run rfl rfl rfl rfl rfl rfl rfl (AO.call rfl _ rfl rfl pf_73 (c_r11_is _ _ h13 ⟨rfl, rfl⟩)) ?_
     obtain rfl := Option.some.inj h12
     refine Ev.cs FX_ok 1 rfl ?_
     exact Ev.nil (Less.settle (ps := [35, 4, 26, 29]) rfl)
    ·
     replace h12 := ite_T h11 h12
     refine Ev.is hKL 32 h11 rfl ?_
     obtain rfl := Option.some.inj h12
     refine Ev.cs FX_ok 3 rfl ?_
     exact Ev.nil (Less.settle (ps := [35, 4, 26, 29]) rfl)
    obtain rfl := Option.some.inj h9
    refine Ev.cs FX_ok 1 rfl ?_
    exact Ev.nil (Less.settle (ps := [36, 4, 26]) rfl)
   ·
    replace h9 := ite_F h8 h9
    refine Ev.is hKL 29 h8 rfl ?_
    obtain rfl := Option.some.inj h9
    refine Ev.cs FX_ok 7 rfl ?_
    exact Ev.nil (Less.settle (ps := [36, 4, 26]) rfl)
   refine Ev.nil (TF.step_none rfl rfl (AO.store_box (i := 0) rfl rfl rfl ti_34 rfl rfl rfl rfl rfl (TF.nil ?_)))
   show AR _ _ _ _ _ _ _ _
   refine cs 1 rfl (AR.nil [4, 5] rfl (AW.ret ?_))
   cases hf
   exact ⟨rfl, _, ⟨_, _, rfl, ⟨_, _, 0, _, _, rfl, rfl, ti_34, rfl⟩, _, _, rfl, rfl, rfl⟩, [], List.nil_sublist _, h⟩

theorem c_r11_lists  (kind1 : Int) {r0 : ApiType} (hf : r11_lists kind1 = some r0) {τ : List Res} {Q : AOut → List Res → Prop} (h : Q (.ret (.agg [.int .i64 r0.kind, .list (ApiType.cellsL r0.elem)])) τ) : AC Tryz.prog 103 [.int .i64 kind1] τ Q := by
 unfold r11_lists at hf
 refine AC.none (AC.of_body 6 [.cell 2 34] [0] Tryz.func103 rfl rfl rfl rfl rfl (AW.sr (AR.step rfl rfl rfl (AO.alloc_own rfl zp_34 (fun b2 => ?_)))))
 refine AR.nil [0, 2] rfl (AW.sr (cs 1 rfl ?_))
 obtain ⟨x1, h1, hf⟩ := bind1_inv hf
 refine AR.step rfl rfl rfl (AO.call rfl _ rfl rfl pf_72 (c_r11_plain _ h1 ?_))
 replace hf := (bind1_ret _).trans hf
 obtain ⟨x2, h2, hf⟩ := bind1_inv hf
 refine AR.step rfl rfl rfl (AO.call rfl _ rfl rfl pf_76 (c_r08_With _ _ h2 (AR.step_none rfl rfl (AO.store_box (i := 0) rfl rfl rfl ti_34 rfl rfl rfl rfl rfl (AR.nil [2] rfl (AW.ret ?_))))))
 cases hf
 exact ⟨rfl, _, ⟨_, _, rfl, ⟨_, _, 0, _, _, rfl, rfl, ti_34, rfl⟩, rfl⟩, [], List.nil_sublist _, h⟩

theorem c_r11_call  (name1 : Str) (l1 : List ApiType) {r0 : ApiType} {r1 : Bool} (hf : r11_call name1 l1 = some (r0, r1)) {τ : List Res} {Q : AOut → List Res → Prop} (h : Q (.ret (.tuple [.agg [.int .i64 r0.kind, .list (ApiType.cellsL r0.elem)], .bool r1])) τ) : AC Tryz.prog 71 [.str name1, .list (ApiType.cellsL l1)] τ Q := by
 unfold r11_call at hf
 refine AC.none (AC.of_body 150 [.cell 4 34, .tmp 5] [0, 1] Tryz.func71 rfl rfl rfl rfl rfl (AW.sr (AR.step rfl rfl rfl (AO.alloc_own rfl zp_34 (fun b4 => ?_)))))
 refine cs 1 rfl (AR.nil [0, 1, 4] rfl (AW.sr ?_))
 obtain ⟨x1, h1, hf⟩ := bind1_inv hf
 refine AR.step rfl rfl rfl (AO.call rfl _ rfl rfl pf_72 (c_r11_plain _ h1 (AR.step rfl rfl rfl (AO.alloc_own rfl zp_34 (fun b6 => (AR.step_none rfl rfl (AO.store_box (i := 0) rfl rfl rfl ti_34 rfl rfl rfl rfl rfl (AR.nil [0, 1, 4, 6] rfl ?_))))))))
 refine AW.seq (AW.sr (cs 1 rfl (AR.nil [1, 4, 6, 8] rfl ?_)))
 refine AW.block (AW.sr (cs 2 rfl (AR.nil [1, 4, 6, 8, 9] rfl ?_)))
 refine AW.cond rfl (fun h2 => ?_) (fun h2 => ?_)
 ·
  replace hf := ite_T h2 hf
  refine AW.seq (AW.drawG 13 19 20 1 mixed (by kernel_rfl) (by kernel_rfl) (by kernel_rfl) rfl rfl rfl rfl ?_)
  obtain ⟨x2, h3, hf⟩ := bind1_inv hf
  refine Ev.cons rfl rfl rfl (AO.call rfl _ rfl rfl pf_72 (c_r11_plain _ h3 ⟨rfl, rfl⟩)) (Ev.cs FX_ok 1 rfl ?_)
  obtain ⟨e1, h4, hf⟩ := bind1_inv hf
  refine Ev.cons rfl rfl rfl (AO.idx_list h4 rfl rfl (ApiType.cellsL_eq _) rfl es_32 (ApiType.cells_eq _) rfl ⟨rfl, rfl⟩) (Ev.cs FX_ok 1 rfl ?_)
  obtain ⟨x3, h5, hf⟩ := bind1_inv hf
  refine Ev.cons rfl rfl rfl (AO.call rfl _ rfl rfl pf_73 (c_r11_is _ _ h5 ⟨rfl, rfl⟩)) (Ev.cs FX_ok 1 rfl ?_)
  obtain ⟨b1, h7, hf⟩ := bind1_inv hf
  refine Ev.join1 (hKE hKT) 6 16 22 false [1, 4, 11] (.bool b1) rfl rfl (fun h6 => ?_) (fun h6 => ?_) ?_
  ·
   replace h7 := ite_F h6 h7
   refine Ev.is hKL 16 h6 rfl (Ev.cs FX_ok 1 rfl ?_)
   obtain ⟨e2, h8, h7⟩ := bind1_inv h7
   refine Ev.run rfl rfl rfl rfl rfl rfl rfl (AO.idx_list h8 rfl rfl (ApiType.cellsL_eq _) rfl es_32 (ApiType.cells_eq _) rfl ⟨rfl, rfl⟩) (Ev.cs FX_ok 1 rfl ?_)
   obtain ⟨x4, h9, h7⟩ := bind1_inv h7
   refine Ev.run rfl rfl rfl rfl rfl rfl rfl (AO.call rfl _ rfl rfl pf_103 (c_r11_lists _ h9 ⟨rfl, rfl⟩)) ?_
   replace h7 := (bind1_ret _).trans h7
   obtain ⟨x5, h10, h7⟩ := bind1_inv h7
   refine Ev.run rfl rfl rfl rfl rfl rfl rfl (AO.call rfl _ rfl rfl pf_102 (c_r11_Compatible _ _ h10 ⟨rfl, rfl⟩)) ?_
   obtain rfl := Option.some.inj h7
   refine Ev.cs FX_ok 1 rfl ?_
   exact Ev.nil (Less.settle (ps := [22, 1, 4, 11]) rfl)
  ·
   replace h7 := ite_T h6 h7
   refine Ev.is hKL 16 h6 rfl ?_
   obtain rfl := Option.some.inj h7
   refine Ev.cs FX_ok 6 rfl ?_
   exact Ev.nil (Less.settle (ps := [22, 1, 4, 11]) rfl)
  refine Ev.cs FX_ok 1 rfl (Ev.nil ?_)
  show Ev _ _ _ _ _ _ _
  obtain ⟨b2, h12, hf⟩ := bind1_inv hf
  refine Ev.join1 hKT 6 23 29 false [4, 11] (.bool b2) rfl rfl (fun h11 => ?_) (fun h11 => ?_) ?_
  ·
   replace h12 := ite_F h11 h12
   refine Ev.is hKL 23 h11 rfl (Ev.cs FX_ok 1 rfl ?_)
   obtain ⟨e3, h13, h12⟩ := bind1_inv h12
   refine Ev.run rfl rfl rfl rfl rfl rfl rfl (AO.idx_list h13 rfl rfl (ApiType.cellsL_eq _) rfl es_32 (ApiType.cells_eq _) rfl ⟨rfl, rfl⟩) (Ev.cs FX_ok 1 rfl ?_)
   obtain ⟨x6, h14, h12⟩ := bind1_inv h12
   refine Ev.run rfl rfl rfl rfl rfl rfl rfl (AO.call rfl _ rfl rfl pf_103 (c_r11_lists _ h14 ⟨rfl, rfl⟩)) ?_
   replace h12 := (bind1_ret _).trans h12
   obtain ⟨x7, h15, h12⟩ := bind1_inv h12
   refine Ev.run rfl rfl rfl rfl rfl rfl rfl (AO.call rfl _ rfl rfl pf_102 (c_r11_Compatible _ _ h15 ⟨rfl, rfl⟩)) ?_
   obtain rfl := Option.some.inj h12
   refine Ev.cs FX_ok 1 rfl ?_
   exact Ev.nil (Less.settle (ps := [29, 4, 11]) rfl)
  ·
   replace h12 := ite_T h11 h12
   refine Ev.is hKL 23 h11 rfl ?_
   obtain rfl := Option.some.inj h12
   refine Ev.cs FX_ok 6 rfl ?_
   exact Ev.nil (Less.settle (ps := [29, 4, 11]) rfl)
  refine Ev.nil (TF.step_none rfl rfl (AO.store_box (i := 0) rfl rfl rfl ti_34 rfl rfl rfl rfl rfl (TF.nil ?_)))
  show AR _ _ _ _ _ _ _ _
  refine cs 1 rfl (AR.nil [4, 5] rfl (AW.ret ?_))
  cases hf
  exact ⟨rfl, _, ⟨_, _, rfl, ⟨_, _, 1, _, _, rfl, rfl, ti_34, rfl⟩, _, _, rfl, rfl, rfl⟩, [], List.nil_sublist _, h⟩
 ·
  replace hf := ite_F h2 hf
  refine AW.sr (cs 2 rfl (AR.nil [1, 4, 6, 8, 30] rfl (AW.cond rfl (fun h16 => ?_) (fun h16 => ?_))))
  ·
   replace hf := ite_T h16 hf
   refine AW.seq (AW.drawG 7 25 26 1 mixed (by kernel_rfl) (by kernel_rfl) (by kernel_rfl) rfl rfl rfl rfl ?_)
   obtain ⟨x8, h17, hf⟩ := bind1_inv hf
   refine Ev.cons rfl rfl rfl (AO.call rfl _ rfl rfl pf_72 (c_r11_plain _ h17 ⟨rfl, rfl⟩)) (Ev.cs FX_ok 1 rfl ?_)
   obtain ⟨e4, h18, hf⟩ := bind1_inv hf
   refine Ev.cons rfl rfl rfl (AO.idx_list h18 rfl rfl (ApiType.cellsL_eq _) rfl es_32 (ApiType.cells_eq _) rfl ⟨rfl, rfl⟩) (Ev.cs FX_ok 1 rfl ?_)
   obtain ⟨x9, h19, hf⟩ := bind1_inv hf
   refine Ev.cons rfl rfl rfl (AO.call rfl _ rfl rfl pf_103 (c_r11_lists _ h19 ⟨rfl, rfl⟩)) ?_
   obtain ⟨x10, h20, hf⟩ := bind1_inv hf
   refine Ev.cons rfl rfl rfl (AO.call rfl _ rfl rfl pf_102 (c_r11_Compatible _ _ h20 ⟨rfl, rfl⟩)) (Ev.cs FX_ok 1 rfl (Ev.nil ?_))
   show Ev _ _ _ _ _ _ _
   obtain ⟨b3, h22, hf⟩ := bind1_inv hf
   refine Ev.join1 hKT 18 38 56 false [4, 32] (.bool b3) rfl rfl (fun h21 => ?_) (fun h21 => ?_) ?_
   ·
    replace h22 := ite_F h21 h22
    refine Ev.is hKL 38 h21 rfl (Ev.cs FX_ok 1 rfl ?_)
    obtain ⟨e5, h23, h22⟩ := bind1_inv h22
    refine Ev.run rfl rfl rfl rfl rfl rfl rfl (AO.idx_list h23 rfl rfl (ApiType.cellsL_eq _) rfl es_32 (ApiType.cells_eq _) rfl ⟨rfl, rfl⟩) (Ev.cs FX_ok 1 rfl ?_)
    obtain ⟨x11, h24, h22⟩ := bind1_inv h22
    refine Ev.run rfl rfl rfl rfl rfl rfl rfl (AO.call rfl _ rfl rfl pf_73 (c_r11_is _ _ h24 ⟨rfl, rfl⟩)) (Ev.cs FX_ok 1 rfl ?_)
    replace h22 := (bind1_ret _).trans h22
    obtain ⟨b4, h26, h22⟩ := bind1_inv h22
    refine Ev.join1 hKL 12 43 55 true [4, 32, 38] (.bool b4) rfl rfl (fun h25 => ?_) (fun h25 => ?_) ?_
    ·
     replace h26 := ite_T h25 h26
     refine Ev.is hKL 43 h25 rfl (Ev.cs FX_ok 1 rfl ?_)
     obtain ⟨e6, h27, h26⟩ := bind1_inv h26
     refine Ev.run rfl rfl rfl rfl rfl rfl rfl (AO.idx_list h27 rfl rfl (ApiType.cellsL_eq _) rfl es_32 (ApiType.cells_eq _) rfl ⟨rfl, rfl⟩) (Ev.cs FX_ok 1 rfl ?_)
     obtain ⟨x12, h28, h26⟩ := bind1_inv h26
     refine Ev.run rfl rfl rfl rfl rfl rfl rfl (AO.call rfl _ rfl rfl pf_73 (c_r11_is _ _ h28 ⟨rfl, rfl⟩)) (Ev.cs FX_ok 1 rfl ?_)
     replace h26 := (bind1_ret _).trans h26
     obtain ⟨b5, h30, h26⟩ := bind1_inv h26
     refine Ev.join1 hKL 6 48 54 false [4, 32, 38, 43] (.bool b5) rfl rfl (fun h29 => ?_) (fun h29 => ?_) ?_
     ·
      replace h30 := ite_F h29 h30
      refine Ev.is hKL 48 h29 rfl (Ev.cs FX_ok 1 rfl ?_)
      obtain ⟨e7, h31, h30⟩ := bind1_inv h30
      refine Ev.run rfl rfl rfl rfl rfl rfl rfl (AO.idx_list h31 rfl rfl (ApiType.cellsL_eq _) rfl es_32 (ApiType.cells_eq _) rfl ⟨rfl, rfl⟩) (Ev.cs FX_ok 1 rfl ?_)
      obtain ⟨x13, h32, h30⟩ := bind1_inv h30
      refine Ev.run rfl rfl rfl rfl rfl rfl rfl (AO.call rfl _ rfl rfl pf_103 (c_r11_lists _ h32 ⟨rfl, rfl⟩)) ?_
      replace h30 := (bind1_ret _).trans h30
      obtain ⟨x14, h33, h30⟩ := bind1_inv h30
      refine Ev.run rfl rfl rfl rfl rfl rfl rfl (AO.call rfl _ rfl rfl pf_102 (c_r11_Compatible _ _ h33 ⟨rfl, rfl⟩)) ?_
      obtain rfl := Option.some.inj h30
      refine Ev.cs FX_ok 1 rfl ?_
      exact Ev.nil (Less.settle (ps := [54, 4, 32, 38, 43]) rfl)
     ·
      replace h30 := ite_T h29 h30
      refine Ev.is hKL 48 h29 rfl ?_
      obtain rfl := Option.some.inj h30
      refine Ev.cs FX_ok 6 rfl ?_
      exact Ev.nil (Less.settle (ps := [54, 4, 32, 38, 43]) rfl)
     obtain rfl := Option.some.inj h26
     refine Ev.cs FX_ok 1 rfl ?_
     exact Ev.nil (Less.settle (ps := [55, 4, 32, 38]) rfl)
    ·
     replace h26 := ite_F h25 h26
     refine Ev.is hKL 43 h25 rfl ?_
     obtain rfl := Option.some.inj h26
     refine Ev.cs FX_ok 12 rfl ?_
     exact Ev.nil (Less.settle (ps := [55, 4, 32, 38]) rfl)
    obtain rfl := Option.some.inj h22
    refine Ev.cs FX_ok 1 rfl ?_
    exact Ev.nil (Less.settle (ps := [56, 4, 32]) rfl)
   ·
    replace h22 := ite_T h21 h22
    refine Ev.is hKL 38 h21 rfl ?_
    obtain rfl := Option.some.inj h22
    refine Ev.cs FX_ok 18 rfl ?_
    exact Ev.nil (Less.settle (ps := [56, 4, 32]) rfl)
   refine Ev.nil (TF.step_none rfl rfl (AO.store_box (i := 0) rfl rfl rfl ti_34 rfl rfl rfl rfl rfl (TF.nil ?_)))
   show AR _ _ _ _ _ _ _ _
   refine cs 1 rfl (AR.nil [4, 5] rfl (AW.ret ?_))
   cases hf
   exact ⟨rfl, _, ⟨_, _, rfl, ⟨_, _, 1, _, _, rfl, rfl, ti_34, rfl⟩, _, _, rfl, rfl, rfl⟩, [], List.nil_sublist _, h⟩
  ·
   replace hf := ite_F h16 hf
   refine AW.sr (cs 2 rfl (AR.nil [1, 4, 6, 8, 57] rfl (AW.cond rfl (fun h34 => ?_) (fun h34 => ?_))))
   ·
    replace hf := ite_T h34 hf
    refine AW.seq (AW.drawG 8 13 14 1 mixed (by kernel_rfl) (by kernel_rfl) (by kernel_rfl) rfl rfl rfl rfl ?_)
    refine Ev.cons rfl rfl rfl (AO.load_box (i := 0) rfl rfl rfl ti_34 rfl rfl ⟨rfl, rfl⟩) (Ev.cs FX_ok 1 rfl ?_)
    obtain ⟨e8, h35, hf⟩ := bind1_inv hf
    refine Ev.cons rfl rfl rfl (AO.idx_list h35 rfl rfl (ApiType.cellsL_eq _) rfl es_32 (ApiType.cells_eq _) rfl ⟨rfl, rfl⟩) (Ev.cs FX_ok 1 rfl (Ev.cons rfl rfl rfl (AO.load_box (i := 0) rfl rfl rfl ti_34 rfl rfl ⟨rfl, rfl⟩) ?_))
    obtain ⟨x15, h36, hf⟩ := bind1_inv hf
    refine Ev.cons rfl rfl rfl (AO.call rfl _ rfl rfl pf_76 (c_r08_With _ _ h36 ⟨rfl, rfl⟩)) ?_
    obtain ⟨x16, h37, hf⟩ := bind1_inv hf
    refine Ev.cons rfl rfl rfl (AO.call rfl _ rfl rfl pf_102 (c_r11_Compatible _ _ h37 ⟨rfl, rfl⟩)) (Ev.cs FX_ok 1 rfl (Ev.nil ?_))
    show Ev _ _ _ _ _ _ _
    obtain ⟨b6, h39, hf⟩ := bind1_inv hf
    refine Ev.join1 hKT 5 66 71 true [4, 59] (.bool b6) rfl rfl (fun h38 => ?_) (fun h38 => ?_) ?_
    ·
     replace h39 := ite_T h38 h39
     refine Ev.is hKL 66 h38 rfl (Ev.cs FX_ok 1 rfl ?_)
     obtain ⟨e9, h40, h39⟩ := bind1_inv h39
     refine Ev.run rfl rfl rfl rfl rfl rfl rfl (AO.idx_list h40 rfl rfl (ApiType.cellsL_eq _) rfl es_32 (ApiType.cells_eq _) rfl ⟨rfl, rfl⟩) (Ev.cs FX_ok 1 rfl ?_)
     replace h39 := (bind1_ret _).trans h39
     obtain ⟨x17, h41, h39⟩ := bind1_inv h39
     refine Ev.run rfl rfl rfl rfl rfl rfl rfl (AO.call rfl _ rfl rfl pf_73 (c_r11_is _ _ h41 ⟨rfl, rfl⟩)) ?_
     obtain rfl := Option.some.inj h39
     refine Ev.cs FX_ok 1 rfl ?_
     exact Ev.nil (Less.settle (ps := [71, 4, 59]) rfl)
    ·
     replace h39 := ite_F h38 h39
     refine Ev.is hKL 66 h38 rfl ?_
     obtain rfl := Option.some.inj h39
     refine Ev.cs FX_ok 5 rfl ?_
     exact Ev.nil (Less.settle (ps := [71, 4, 59]) rfl)
    refine Ev.nil (TF.step_none rfl rfl (AO.store_box (i := 0) rfl rfl rfl ti_34 rfl rfl rfl rfl rfl (TF.nil ?_)))
    show AR _ _ _ _ _ _ _ _
    refine cs 1 rfl (AR.nil [4, 5] rfl (AW.ret ?_))
    cases hf
    exact ⟨rfl, _, ⟨_, _, rfl, ⟨_, _, 1, _, _, rfl, rfl, ti_34, rfl⟩, _, _, rfl, rfl, rfl⟩, [], List.nil_sublist _, h⟩
   ·
    replace hf := ite_F h34 hf
    refine AW.sr (cs 2 rfl (AR.nil [1, 4, 6, 8, 72] rfl (AW.cond rfl (fun h42 => ?_) (fun h42 => ?_))))
    ·
     replace hf := ite_T h42 hf
     refine AW.seq (AW.drawG 7 12 13 1 mixed (by kernel_rfl) (by kernel_rfl) (by kernel_rfl) rfl rfl rfl rfl ?_)
     refine Ev.cons rfl rfl rfl (AO.load_box (i := 0) rfl rfl rfl ti_34 rfl rfl ⟨rfl, rfl⟩) ?_
     obtain ⟨x18, h43, hf⟩ := bind1_inv hf
     refine Ev.cons rfl rfl rfl (AO.call rfl _ rfl rfl pf_76 (c_r08_With _ _ h43 ⟨rfl, rfl⟩)) (Ev.cs FX_ok 1 rfl ?_)
     obtain ⟨e10, h44, hf⟩ := bind1_inv hf
     refine Ev.cons rfl rfl rfl (AO.idx_list h44 rfl rfl (ApiType.cellsL_eq _) rfl es_32 (ApiType.cells_eq _) rfl ⟨rfl, rfl⟩) (Ev.cs FX_ok 1 rfl ?_)
     obtain ⟨x19, h45, hf⟩ := bind1_inv hf
     refine Ev.cons rfl rfl rfl (AO.call rfl _ rfl rfl pf_73 (c_r11_is _ _ h45 ⟨rfl, rfl⟩)) (Ev.cs FX_ok 1 rfl (Ev.nil ?_))
     show Ev _ _ _ _ _ _ _
     obtain ⟨b7, h47, hf⟩ := bind1_inv hf
     refine Ev.join1 hKT 5 80 85 true [4, 75] (.bool b7) rfl rfl (fun h46 => ?_) (fun h46 => ?_) ?_
     ·
      replace h47 := ite_T h46 h47
      refine Ev.is hKL 80 h46 rfl (Ev.cs FX_ok 1 rfl ?_)
      obtain ⟨e11, h48, h47⟩ := bind1_inv h47
      refine Ev.run rfl rfl rfl rfl rfl rfl rfl (AO.idx_list h48 rfl rfl (ApiType.cellsL_eq _) rfl es_32 (ApiType.cells_eq _) rfl ⟨rfl, rfl⟩) (Ev.cs FX_ok 1 rfl ?_)
      replace h47 := (bind1_ret _).trans h47
      obtain ⟨x20, h49, h47⟩ := bind1_inv h47
      refine Ev.run rfl rfl rfl rfl rfl rfl rfl (AO.call rfl _ rfl rfl pf_73 (c_r11_is _ _ h49 ⟨rfl, rfl⟩)) ?_
      obtain rfl := Option.some.inj h47
      refine Ev.cs FX_ok 1 rfl ?_
      exact Ev.nil (Less.settle (ps := [85, 4, 75]) rfl)
     ·
      replace h47 := ite_F h46 h47
      refine Ev.is hKL 80 h46 rfl ?_
      obtain rfl := Option.some.inj h47
      refine Ev.cs FX_ok 5 rfl ?_
      exact Ev.nil (Less.settle (ps := [85, 4, 75]) rfl)
     refine Ev.nil (TF.step_none rfl rfl (AO.store_box (i := 0) rfl rfl rfl ti_34 rfl rfl rfl rfl rfl (TF.nil ?_)))
     show AR _ _ _ _ _ _ _ _
     refine cs 1 rfl (AR.nil [4, 5] rfl (AW.ret ?_))
     cases hf
     exact ⟨rfl, _, ⟨_, _, rfl, ⟨_, _, 1, _, _, rfl, rfl, ti_34, rfl⟩, _, _, rfl, rfl, rfl⟩, [], List.nil_sublist _, h⟩
    ·
     replace hf := ite_F h42 hf
     refine AW.seq (AW.sr (cs 2 rfl (AR.nil [1, 4, 6, 8, 86] rfl ?_)))
     refine AW.cond rfl (fun h50 => ?_) (fun h50 => ?_)
     ·
      replace hf := ite_T h50 hf
      refine AW.skip (AW.cond rfl (fun h51 => ?_) (fun h51 => ?_))
      ·
       refine AW.seq (AW.draw 5 mixed (by kernel_rfl) rfl ?_)
       refine Ev.cons rfl rfl rfl (AO.load_box (i := 0) rfl rfl rfl ti_34 rfl rfl ⟨rfl, rfl⟩) (Ev.cs FX_ok 1 rfl ?_)
       obtain ⟨e12, h52, hf⟩ := bind1_inv hf
       refine Ev.cons rfl rfl rfl (AO.idx_list h52 rfl rfl (ApiType.cellsL_eq _) rfl es_32 (ApiType.cells_eq _) rfl ⟨rfl, rfl⟩) (Ev.cs FX_ok 1 rfl ?_)
       obtain ⟨x21, h53, hf⟩ := bind1_inv hf
       refine Ev.cons rfl rfl rfl (AO.call rfl _ rfl rfl pf_73 (c_r11_is _ _ h53 ⟨rfl, rfl⟩)) (Ev.nil ?_)
       show AR _ _ _ _ _ _ _ _
       refine AR.step_none rfl rfl (AO.store_box (i := 1) rfl rfl rfl ti_34 rfl rfl rfl rfl rfl (cs 1 rfl (AR.nil [4, 5] rfl (AW.ret ?_))))
       cases hf
       exact ⟨rfl, _, ⟨_, _, rfl, ⟨_, _, 1, _, _, rfl, rfl, ti_34, rfl⟩, _, _, rfl, rfl, rfl⟩, [], List.nil_sublist _, h⟩
      ·
       cases h50.symm.trans h51
     ·
      replace hf := ite_F h50 hf
      refine AW.region (cs 2 rfl (AR.nil [1, 4, 6, 8, 86] rfl (AW.cond rfl (fun h54 => ?_) (fun h54 => ?_))))
      ·
       replace hf := ite_T h54 hf
       refine AW.seq (AW.draw 5 mixed (by kernel_rfl) rfl ?_)
       refine Ev.cons rfl rfl rfl (AO.load_box (i := 0) rfl rfl rfl ti_34 rfl rfl ⟨rfl, rfl⟩) (Ev.cs FX_ok 1 rfl ?_)
       obtain ⟨e13, h55, hf⟩ := bind1_inv hf
       refine Ev.cons rfl rfl rfl (AO.idx_list h55 rfl rfl (ApiType.cellsL_eq _) rfl es_32 (ApiType.cells_eq _) rfl ⟨rfl, rfl⟩) (Ev.cs FX_ok 1 rfl ?_)
       obtain ⟨x22, h56, hf⟩ := bind1_inv hf
       refine Ev.cons rfl rfl rfl (AO.call rfl _ rfl rfl pf_73 (c_r11_is _ _ h56 ⟨rfl, rfl⟩)) (Ev.nil ?_)
       show AR _ _ _ _ _ _ _ _
       refine AR.step_none rfl rfl (AO.store_box (i := 1) rfl rfl rfl ti_34 rfl rfl rfl rfl rfl (cs 1 rfl (AR.nil [4, 5] rfl (AW.ret ?_))))
       cases hf
       exact ⟨rfl, _, ⟨_, _, rfl, ⟨_, _, 1, _, _, rfl, rfl, ti_34, rfl⟩, _, _, rfl, rfl, rfl⟩, [], List.nil_sublist _, h⟩
      ·
       replace hf := ite_F h54 hf
       refine AW.seq (AW.sr (cs 2 rfl (AR.nil [1, 4, 6, 8, 94] rfl ?_)))
       refine AW.cond rfl (fun h57 => ?_) (fun h57 => ?_)
       ·
        replace hf := ite_T h57 hf
        refine AW.skip (AW.cond rfl (fun h58 => ?_) (fun h58 => ?_))
        ·
         refine AW.seq (AW.drawG 6 11 12 1 mixed (by kernel_rfl) (by kernel_rfl) (by kernel_rfl) rfl rfl rfl rfl ?_)
         obtain ⟨x23, h59, hf⟩ := bind1_inv hf
         refine Ev.cons rfl rfl rfl (AO.call rfl _ rfl rfl pf_72 (c_r11_plain _ h59 ⟨rfl, rfl⟩)) (Ev.cs FX_ok 1 rfl ?_)
         obtain ⟨e14, h60, hf⟩ := bind1_inv hf
         refine Ev.cons rfl rfl rfl (AO.idx_list h60 rfl rfl (ApiType.cellsL_eq _) rfl es_32 (ApiType.cells_eq _) rfl ⟨rfl, rfl⟩) (Ev.cs FX_ok 1 rfl ?_)
         obtain ⟨x24, h61, hf⟩ := bind1_inv hf
         refine Ev.cons rfl rfl rfl (AO.call rfl _ rfl rfl pf_73 (c_r11_is _ _ h61 ⟨rfl, rfl⟩)) (Ev.cs FX_ok 1 rfl (Ev.nil ?_))
         show Ev _ _ _ _ _ _ _
         obtain ⟨b8, h63, hf⟩ := bind1_inv hf
         refine Ev.join1 hKT 5 102 107 true [4, 97] (.bool b8) rfl rfl (fun h62 => ?_) (fun h62 => ?_) ?_
         ·
          replace h63 := ite_T h62 h63
          refine Ev.is hKL 102 h62 rfl (Ev.cs FX_ok 1 rfl ?_)
          obtain ⟨e15, h64, h63⟩ := bind1_inv h63
          refine Ev.run rfl rfl rfl rfl rfl rfl rfl (AO.idx_list h64 rfl rfl (ApiType.cellsL_eq _) rfl es_32 (ApiType.cells_eq _) rfl ⟨rfl, rfl⟩) (Ev.cs FX_ok 1 rfl ?_)
          replace h63 := (bind1_ret _).trans h63
          obtain ⟨x25, h65, h63⟩ := bind1_inv h63
          refine Ev.run rfl rfl rfl rfl rfl rfl rfl (AO.call rfl _ rfl rfl pf_73 (c_r11_is _ _ h65 ⟨rfl, rfl⟩)) ?_
          obtain rfl := Option.some.inj h63
          refine Ev.cs FX_ok 1 rfl ?_
          exact Ev.nil (Less.settle (ps := [107, 4, 97]) rfl)
         ·
          replace h63 := ite_F h62 h63
          refine Ev.is hKL 102 h62 rfl ?_
          obtain rfl := Option.some.inj h63
          refine Ev.cs FX_ok 5 rfl ?_
          exact Ev.nil (Less.settle (ps := [107, 4, 97]) rfl)
         refine Ev.nil (TF.step_none rfl rfl (AO.store_box (i := 0) rfl rfl rfl ti_34 rfl rfl rfl rfl rfl (TF.nil ?_)))
         show AR _ _ _ _ _ _ _ _
         refine cs 1 rfl (AR.nil [4, 5] rfl (AW.ret ?_))
         cases hf
         exact ⟨rfl, _, ⟨_, _, rfl, ⟨_, _, 1, _, _, rfl, rfl, ti_34, rfl⟩, _, _, rfl, rfl, rfl⟩, [], List.nil_sublist _, h⟩
        ·
         cases h57.symm.trans h58
       ·
        replace hf := ite_F h57 hf
        refine AW.region (cs 2 rfl (AR.nil [1, 4, 6, 8, 94] rfl (AW.cond rfl (fun h66 => ?_) (fun h66 => ?_))))
        ·
         replace hf := ite_T h66 hf
         refine AW.seq (AW.drawG 6 11 12 1 mixed (by kernel_rfl) (by kernel_rfl) (by kernel_rfl) rfl rfl rfl rfl ?_)
         obtain ⟨x26, h67, hf⟩ := bind1_inv hf
         refine Ev.cons rfl rfl rfl (AO.call rfl _ rfl rfl pf_72 (c_r11_plain _ h67 ⟨rfl, rfl⟩)) (Ev.cs FX_ok 1 rfl ?_)
         obtain ⟨e16, h68, hf⟩ := bind1_inv hf
         refine Ev.cons rfl rfl rfl (AO.idx_list h68 rfl rfl (ApiType.cellsL_eq _) rfl es_32 (ApiType.cells_eq _) rfl ⟨rfl, rfl⟩) (Ev.cs FX_ok 1 rfl ?_)
         obtain ⟨x27, h69, hf⟩ := bind1_inv hf
         refine Ev.cons rfl rfl rfl (AO.call rfl _ rfl rfl pf_73 (c_r11_is _ _ h69 ⟨rfl, rfl⟩)) (Ev.cs FX_ok 1 rfl (Ev.nil ?_))
         show Ev _ _ _ _ _ _ _
         obtain ⟨b9, h71, hf⟩ := bind1_inv hf
         refine Ev.join1 hKT 5 102 107 true [4, 97] (.bool b9) rfl rfl (fun h70 => ?_) (fun h70 => ?_) ?_
         ·
          replace h71 := ite_T h70 h71
          refine Ev.is hKL 102 h70 rfl (Ev.cs FX_ok 1 rfl ?_)
          obtain ⟨e17, h72, h71⟩ := bind1_inv h71
          refine Ev.run rfl rfl rfl rfl rfl rfl rfl (AO.idx_list h72 rfl rfl (ApiType.cellsL_eq _) rfl es_32 (ApiType.cells_eq _) rfl ⟨rfl, rfl⟩) (Ev.cs FX_ok 1 rfl ?_)
          replace h71 := (bind1_ret _).trans h71
          obtain ⟨x28, h73, h71⟩ := bind1_inv h71
          refine Ev.run rfl rfl rfl rfl rfl rfl rfl (AO.call rfl _ rfl rfl pf_73 (c_r11_is _ _ h73 ⟨rfl, rfl⟩)) ?_
          obtain rfl := Option.some.inj h71
          refine Ev.cs FX_ok 1 rfl ?_
          exact Ev.nil (Less.settle (ps := [107, 4, 97]) rfl)
         ·
          replace h71 := ite_F h70 h71
          refine Ev.is hKL 102 h70 rfl ?_
          obtain rfl := Option.some.inj h71
          refine Ev.cs FX_ok 5 rfl ?_
          exact Ev.nil (Less.settle (ps := [107, 4, 97]) rfl)
         refine Ev.nil (TF.step_none rfl rfl (AO.store_box (i := 0) rfl rfl rfl ti_34 rfl rfl rfl rfl rfl (TF.nil ?_)))
         show AR _ _ _ _ _ _ _ _
         refine cs 1 rfl (AR.nil [4, 5] rfl (AW.ret ?_))
         cases hf
         exact ⟨rfl, _, ⟨_, _, rfl, ⟨_, _, 1, _, _, rfl, rfl, ti_34, rfl⟩, _, _, rfl, rfl, rfl⟩, [], List.nil_sublist _, h⟩
        ·
         replace hf := ite_F h66 hf
         refine AW.sr (cs 2 rfl (AR.nil [1, 4, 6, 8, 108] rfl (AW.cond rfl (fun h74 => ?_) (fun h74 => ?_))))
         ·
          replace hf := ite_T h74 hf
          refine AW.seq (AW.drawG 7 13 14 1 mixed (by kernel_rfl) (by kernel_rfl) (by kernel_rfl) rfl rfl rfl rfl ?_)
          refine Ev.cons rfl rfl rfl (AO.load_box (i := 0) rfl rfl rfl ti_34 rfl rfl ⟨rfl, rfl⟩) (Ev.cs FX_ok 1 rfl ?_)
          obtain ⟨e18, h75, hf⟩ := bind1_inv hf
          refine Ev.cons rfl rfl rfl (AO.idx_list h75 rfl rfl (ApiType.cellsL_eq _) rfl es_32 (ApiType.cells_eq _) rfl ⟨rfl, rfl⟩) (Ev.cs FX_ok 4 rfl (Ev.nil ?_))
          show Ev _ _ _ _ _ _ _
          obtain ⟨b10, h77, hf⟩ := bind1_inv hf
          refine Ev.join1 hKT 6 116 122 true [4, 110] (.bool b10) rfl rfl (fun h76 => ?_) (fun h76 => ?_) ?_
          ·
           replace h77 := ite_T h76 h77
           refine Ev.is hKL 116 h76 rfl (Ev.cs FX_ok 1 rfl ?_)
           obtain ⟨e19, h78, h77⟩ := bind1_inv h77
           refine Ev.run rfl rfl rfl rfl rfl rfl rfl (AO.idx_list h78 rfl rfl (ApiType.cellsL_eq _) rfl es_32 (ApiType.cells_eq _) rfl ⟨rfl, rfl⟩) (Ev.cs FX_ok 3 rfl ?_)
           obtain rfl := Option.some.inj h77
           refine Ev.cs FX_ok 1 rfl ?_
           exact Ev.nil (Less.settle (ps := [122, 4, 110]) rfl)
          ·
           replace h77 := ite_F h76 h77
           refine Ev.is hKL 116 h76 rfl ?_
           obtain rfl := Option.some.inj h77
           refine Ev.cs FX_ok 6 rfl ?_
           exact Ev.nil (Less.settle (ps := [122, 4, 110]) rfl)
          refine Ev.nil (TF.step_none rfl rfl (AO.store_box (i := 0) rfl rfl rfl ti_34 rfl rfl rfl rfl rfl (TF.nil ?_)))
          show AR _ _ _ _ _ _ _ _
          refine cs 1 rfl (AR.nil [4, 5] rfl (AW.ret ?_))
          cases hf
          exact ⟨rfl, _, ⟨_, _, rfl, ⟨_, _, 1, _, _, rfl, rfl, ti_34, rfl⟩, _, _, rfl, rfl, rfl⟩, [], List.nil_sublist _, h⟩
         ·
          replace hf := ite_F h74 hf
          refine AW.sr (cs 2 rfl (AR.nil [1, 4, 6, 8, 123] rfl (AW.cond rfl (fun h79 => ?_) (fun h79 => ?_))))
          ·
           replace hf := ite_T h79 hf
           refine AW.seq (AW.draw 5 mixed (by kernel_rfl) rfl ?_)
           obtain ⟨x29, h80, hf⟩ := bind1_inv hf
           refine Ev.cons rfl rfl rfl (AO.call rfl _ rfl rfl pf_72 (c_r11_plain _ h80 ⟨rfl, rfl⟩)) (Ev.cs FX_ok 1 rfl ?_)
           obtain ⟨e20, h81, hf⟩ := bind1_inv hf
           refine Ev.cons rfl rfl rfl (AO.idx_list h81 rfl rfl (ApiType.cellsL_eq _) rfl es_32 (ApiType.cells_eq _) rfl ⟨rfl, rfl⟩) (Ev.cs FX_ok 1 rfl ?_)
           obtain ⟨x30, h82, hf⟩ := bind1_inv hf
           refine Ev.cons rfl rfl rfl (AO.call rfl _ rfl rfl pf_73 (c_r11_is _ _ h82 ⟨rfl, rfl⟩)) (Ev.nil ?_)
           show AR _ _ _ _ _ _ _ _
           refine AR.step_none rfl rfl (AO.store_box (i := 1) rfl rfl rfl ti_34 rfl rfl rfl rfl rfl (cs 1 rfl (AR.nil [4, 5] rfl (AW.ret ?_))))
           cases hf
           exact ⟨rfl, _, ⟨_, _, rfl, ⟨_, _, 1, _, _, rfl, rfl, ti_34, rfl⟩, _, _, rfl, rfl, rfl⟩, [], List.nil_sublist _, h⟩
          ·
           replace hf := ite_F h79 hf
           refine AW.sr (cs 2 rfl (AR.nil [1, 4, 6, 130] rfl (AW.cond rfl (fun h83 => ?_) (fun h83 => ?_))))
           ·
            replace hf := ite_T h83 hf
            refine AW.seq (AW.draw 7 mixed (by kernel_rfl) rfl ?_)
            refine Ev.cons rfl rfl rfl (AO.load_box (i := 0) rfl rfl rfl ti_34 rfl rfl ⟨rfl, rfl⟩) ?_
            obtain ⟨x31, h84, hf⟩ := bind1_inv hf
            refine Ev.cons rfl rfl rfl (AO.call rfl _ rfl rfl pf_76 (c_r08_With _ _ h84 ⟨rfl, rfl⟩)) (Ev.cs FX_ok 1 rfl ?_)
            obtain ⟨e21, h85, hf⟩ := bind1_inv hf
            refine Ev.cons rfl rfl rfl (AO.idx_list h85 rfl rfl (ApiType.cellsL_eq _) rfl es_32 (ApiType.cells_eq _) rfl ⟨rfl, rfl⟩) (Ev.cs FX_ok 1 rfl ?_)
            obtain ⟨x32, h86, hf⟩ := bind1_inv hf
            refine Ev.cons rfl rfl rfl (AO.call rfl _ rfl rfl pf_103 (c_r11_lists _ h86 ⟨rfl, rfl⟩)) ?_
            obtain ⟨x33, h87, hf⟩ := bind1_inv hf
            refine Ev.cons rfl rfl rfl (AO.call rfl _ rfl rfl pf_102 (c_r11_Compatible _ _ h87 ⟨rfl, rfl⟩)) (Ev.nil ?_)
            show AR _ _ _ _ _ _ _ _
            refine AR.step_none rfl rfl (AO.store_box (i := 1) rfl rfl rfl ti_34 rfl rfl rfl rfl rfl (cs 1 rfl (AR.nil [4, 5] rfl (AW.ret ?_))))
            cases hf
            exact ⟨rfl, _, ⟨_, _, rfl, ⟨_, _, 1, _, _, rfl, rfl, ti_34, rfl⟩, _, _, rfl, rfl, rfl⟩, [], List.nil_sublist _, h⟩
           ·
            replace hf := ite_F h83 hf
            refine AW.skip (AW.seq (AW.sr (cs 1 rfl ?_)))
            obtain ⟨e22, h88, hf⟩ := bind1_inv hf
            refine AR.step rfl rfl rfl (AO.idx_list h88 rfl rfl (ApiType.cellsL_eq _) rfl es_32 (ApiType.cells_eq _) rfl (cs 3 rfl (AR.nil [1, 4, 143] rfl (AW.cond rfl (fun h89 => ?_) (fun h89 => ?_)))))
            ·
             replace hf := ite_T h89 hf
             refine AW.sr (cs 1 rfl ?_)
             obtain ⟨e23, h90, hf⟩ := bind1_inv hf
             refine AR.step rfl rfl rfl (AO.idx_list h90 rfl rfl (ApiType.cellsL_eq _) rfl es_32 (ApiType.cells_eq _) rfl (cs 1 rfl (AR.step_none rfl rfl (AO.store_box (i := 1) rfl rfl rfl ti_34 rfl rfl rfl rfl rfl (cs 1 rfl ?_)))))
             refine AR.nil [4, 5] rfl (AW.ret ?_)
             cases hf
             exact ⟨rfl, _, ⟨_, _, rfl, ⟨_, _, 1, _, _, rfl, rfl, ti_34, rfl⟩, _, _, rfl, rfl, rfl⟩, [], List.nil_sublist _, h⟩
            ·
             replace hf := ite_F h89 hf
             refine AW.skip (AW.sr (cs 1 rfl ?_))
             obtain ⟨e24, h91, hf⟩ := bind1_inv hf
             refine AR.step rfl rfl rfl (AO.idx_list h91 rfl rfl (ApiType.cellsL_eq _) rfl es_32 (ApiType.cells_eq _) rfl (cs 1 rfl (AR.step_none rfl rfl (AO.store_box (i := 1) rfl rfl rfl ti_34 rfl rfl rfl rfl rfl (cs 1 rfl ?_)))))
             refine AR.nil [4, 5] rfl (AW.ret ?_)
             cases hf
             exact ⟨rfl, _, ⟨_, _, rfl, ⟨_, _, 1, _, _, rfl, rfl, ti_34, rfl⟩, _, _, rfl, rfl, rfl⟩, [], List.nil_sublist _, h⟩

theorem c_r11_common  (a1 : ApiType) (b1 : ApiType) {r0 : Int} (hf : r11_common a1 b1 = some r0) {τ : List Res} {Q : AOut → List Res → Prop} (h : Q (.ret (.int .i64 r0)) τ) : AC Tryz.prog 104 [.agg [.int .i64 a1.kind, .list (ApiType.cellsL a1.elem)], .agg [.int .i64 b1.kind, .list (ApiType.cellsL b1.elem)]] τ Q := by
 unfold r11_common at hf
 refine AC.none (AC.of_body 20 [.tmp 4] [0, 1] Tryz.func104 rfl rfl rfl rfl rfl (AW.sr (AR.step rfl rfl rfl (AO.box_ref rfl rfl rfl ?_))))
 refine AR.step rfl rfl rfl (AO.box_ref rfl rfl rfl (cs 1 rfl (AR.nil [2, 3] rfl (AW.seq ?_))))
 refine AW.sr (cs 1 rfl ?_)
 obtain ⟨x1, h1, hf⟩ := bind1_inv hf
 refine AR.step rfl rfl rfl (AO.call rfl _ rfl rfl pf_69 (c_r11_loose _ h1 (AR.nil [2, 3, 6] rfl (AW.cond rfl (fun h2 => ?_) (fun h2 => ?_)))))
 ·
  replace hf := ite_T h2 hf
  refine AW.sr (cs 3 rfl (AR.nil [4] rfl (AW.ret ?_)))
  cases hf
  exact ⟨rfl, _, ⟨_, _, rfl, rfl, rfl⟩, [], List.nil_sublist _, h⟩
 ·
  replace hf := ite_F h2 hf
  refine AW.skip (AW.seq (AW.sr (cs 1 rfl ?_)))
  obtain ⟨x2, h3, hf⟩ := bind1_inv hf
  refine AR.step rfl rfl rfl (AO.call rfl _ rfl rfl pf_69 (c_r11_loose _ h3 (cs 1 rfl (AR.or 6 11 17 [2] (x := (a1.kind == b1.kind)) rfl rfl (fun h4 => ?_) (fun h4 => ?_) ?_))))
  ·
   refine AR.is 11 h4 rfl (cs 6 rfl (AR.nil [17, 2] rfl ?_))
   exact ⟨rfl, rfl, rfl, rfl⟩
  ·
   refine AR.is 11 h4 rfl (cs 6 rfl (AR.nil [17, 2] rfl ?_))
   exact ⟨rfl, rfl, rfl, rfl⟩
  refine AR.nil [2, 17] rfl (AW.cond rfl (fun h5 => ?_) (fun h5 => ?_))
  ·
   replace hf := ite_T h5 hf
   refine AW.sr (cs 3 rfl (AR.nil [4] rfl (AW.ret ?_)))
   cases hf
   exact ⟨rfl, _, ⟨_, _, rfl, rfl, rfl⟩, [], List.nil_sublist _, h⟩
  ·
   replace hf := ite_F h5 hf
   refine AW.skip (AW.sr (cs 1 rfl (AR.nil [4] rfl ?_)))
   refine AW.ret ?_
   cases hf
   exact ⟨rfl, _, ⟨_, _, rfl, rfl, rfl⟩, [], List.nil_sublist _, h⟩

theorem c_r11_element  (t1 : ApiType) {r0 : ApiType} (hf : r11_element t1 = some r0) {τ : List Res} {Q : AOut → List Res → Prop} (h : Q (.ret (.agg [.int .i64 r0.kind, .list (ApiType.cellsL r0.elem)])) τ) : AC Tryz.prog 124 [.agg [.int .i64 t1.kind, .list (ApiType.cellsL t1.elem)]] τ Q := by
 unfold r11_element at hf
 refine AC.none (AC.of_body 10 [.cell 2 34] [0] Tryz.func124 rfl rfl rfl rfl rfl (AW.sr (AR.step rfl rfl rfl (AO.box_ref rfl rfl rfl ?_))))
 refine AR.step rfl rfl rfl (AO.alloc_own rfl zp_34 (fun b2 => (AR.nil [1, 2] rfl (AW.seq (AW.sr ?_)))))
 refine cs 1 rfl ?_
 obtain ⟨x1, h1, hf⟩ := bind1_inv hf
 refine AR.step rfl rfl rfl (AO.call rfl _ rfl rfl pf_69 (c_r11_loose _ h1 (AR.nil [1, 2, 4] rfl (AW.cond rfl (fun h2 => ?_) (fun h2 => ?_)))))
 ·
  replace hf := ite_T h2 hf
  refine AW.sr (cs 1 rfl (AR.step_none rfl rfl (AO.store_box (i := 0) rfl rfl rfl ti_34 rfl rfl rfl rfl rfl (AR.nil [2] rfl ?_))))
  refine AW.ret ?_
  cases hf
  exact ⟨rfl, _, ⟨_, _, rfl, ⟨_, _, 0, _, _, rfl, rfl, ti_34, rfl⟩, rfl⟩, [], List.nil_sublist _, h⟩
 ·
  replace hf := ite_F h2 hf
  refine AW.skip (AW.sr (cs 2 rfl ?_))
  replace hf := (bind1_ret _).trans hf
  obtain ⟨e1, h3, hf⟩ := bind1_inv hf
  refine AR.step rfl rfl rfl (AO.idx_list h3 rfl rfl (ApiType.cellsL_eq _) rfl es_32 (ApiType.cells_eq _) rfl (cs 1 rfl (AR.step_none rfl rfl (AO.store_box (i := 0) rfl rfl rfl ti_34 rfl rfl rfl rfl rfl (AR.nil [2] rfl ?_)))))
  refine AW.ret ?_
  cases hf
  exact ⟨rfl, _, ⟨_, _, rfl, ⟨_, _, 0, _, _, rfl, rfl, ti_34, rfl⟩, rfl⟩, [], List.nil_sublist _, h⟩

theorem c_r08_good  (a1 : ApiType) (b1 : ApiType) {r0 : Bool} (hf : r08_good a1 b1 = some r0) {τ : List Res} {Q : AOut → List Res → Prop} (h : Q (.ret (.bool r0)) τ) : AC Tryz.prog 106 [.agg [.int .i64 a1.kind, .list (ApiType.cellsL a1.elem)], .agg [.int .i64 b1.kind, .list (ApiType.cellsL b1.elem)]] τ Q := by
 unfold r08_good at hf
 refine AC.none (AC.of_body 13 [.tmp 4] [0, 1] Tryz.func106 rfl rfl rfl rfl rfl (AW.sr (AR.step rfl rfl rfl (AO.box_ref rfl rfl rfl ?_))))
 refine AR.step rfl rfl rfl (AO.box_ref rfl rfl rfl (cs 1 rfl (AR.nil [2, 3] rfl (AW.sr ?_))))
 refine cs 1 rfl ?_
 obtain ⟨x1, h1, hf⟩ := bind1_inv hf
 refine AR.step rfl rfl rfl (AO.call rfl _ rfl rfl pf_43 (c_r08_Valid _ h1 (cs 2 rfl ?_)))
 replace hf := (bind1_ret _).trans hf
 obtain ⟨b2, h3, hf⟩ := bind1_inv hf
 refine AR.join1 4 8 12 true [] b2 rfl rfl (fun h2 => ?_) (fun h2 => ?_) ?_
 ·
  replace h3 := ite_T h2 h3
  refine AR.is 8 h2 rfl (cs 1 rfl ?_)
  obtain ⟨x2, h4, h3⟩ := bind1_inv h3
  refine AR.go rfl rfl rfl rfl rfl rfl (AO.call rfl _ rfl rfl pf_43 (c_r08_Valid _ h4 (cs 1 rfl ?_)))
  obtain rfl := Option.some.inj h3
  refine cs 1 rfl (AR.nil [12] rfl ?_)
  exact ⟨rfl, rfl, rfl, rfl⟩
 ·
  replace h3 := ite_F h2 h3
  refine AR.is 8 h2 rfl ?_
  obtain rfl := Option.some.inj h3
  refine cs 4 rfl (AR.nil [12] rfl ?_)
  exact ⟨rfl, rfl, rfl, rfl⟩
 refine cs 1 rfl (AR.nil [4] rfl (AW.ret ?_))
 cases hf
 exact ⟨rfl, _, ⟨_, _, rfl, rfl, rfl⟩, [], List.nil_sublist _, h⟩

theorem c_r08_Join  (a1 : ApiType) (b1 : ApiType) {r0 : ApiType} (hf : r08_Join a1 b1 = some r0) {τ : List Res} {Q : AOut → List Res → Prop} (h : Q (.ret (.agg [.int .i64 r0.kind, .list (ApiType.cellsL r0.elem)])) τ) : AC Tryz.prog 75 [.agg [.int .i64 a1.kind, .list (ApiType.cellsL a1.elem)], .agg [.int .i64 b1.kind, .list (ApiType.cellsL b1.elem)]] τ Q := by
 unfold r08_Join at hf
 refine AC.none (AC.of_body 13 [.cell 4 34] [0, 1] Tryz.func75 rfl rfl rfl rfl rfl (AW.sr (AR.step rfl rfl rfl (AO.box_ref rfl rfl rfl ?_))))
 refine AR.step rfl rfl rfl (AO.box_ref rfl rfl rfl (AR.step rfl rfl rfl (AO.alloc_own rfl zp_34 (fun b4 => (AR.nil [2, 3, 4] rfl (AW.seq ?_))))))
 refine AW.sr (cs 2 rfl ?_)
 obtain ⟨x1, h1, hf⟩ := bind1_inv hf
 refine AR.step rfl rfl rfl (AO.call rfl _ rfl rfl pf_106 (c_r08_good _ _ h1 (cs 1 rfl (AR.nil [2, 3, 4, 8] rfl (AW.cond rfl (fun h2 => ?_) (fun h2 => ?_))))))
 ·
  replace hf := ite_T h2 hf
  refine AW.sr ?_
  replace hf := (bind1_ret _).trans hf
  obtain ⟨x2, h3, hf⟩ := bind1_inv hf
  refine AR.step rfl rfl rfl (AO.call rfl _ rfl rfl pf_100 (c_r08_Plain _ h3 (AR.step_none rfl rfl (AO.store_box (i := 0) rfl rfl rfl ti_34 rfl rfl rfl rfl rfl (AR.nil [4] rfl (AW.ret ?_))))))
  cases hf
  exact ⟨rfl, _, ⟨_, _, rfl, ⟨_, _, 0, _, _, rfl, rfl, ti_34, rfl⟩, rfl⟩, [], List.nil_sublist _, h⟩
 ·
  replace hf := ite_F h2 hf
  refine AW.skip (AW.sr (cs 2 rfl ?_))
  replace hf := (bind1_ret _).trans hf
  obtain ⟨x3, h4, hf⟩ := bind1_inv hf
  refine AR.step rfl rfl rfl (AO.call rfl _ rfl rfl pf_107 (c_r08_join _ _ h4 (AR.step_none rfl rfl (AO.store_box (i := 0) rfl rfl rfl ti_34 rfl rfl rfl rfl rfl (AR.nil [4] rfl (AW.ret ?_))))))
  cases hf
  exact ⟨rfl, _, ⟨_, _, rfl, ⟨_, _, 0, _, _, rfl, rfl, ti_34, rfl⟩, rfl⟩, [], List.nil_sublist _, h⟩

theorem c_r11_sum  (a1 : ApiType) (b1 : ApiType) {r0 : ApiType} {r1 : Bool} (hf : r11_sum a1 b1 = some (r0, r1)) {τ : List Res} {Q : AOut → List Res → Prop} (h : Q (.ret (.tuple [.agg [.int .i64 r0.kind, .list (ApiType.cellsL r0.elem)], .bool r1])) τ) : AC Tryz.prog 105 [.agg [.int .i64 a1.kind, .list (ApiType.cellsL a1.elem)], .agg [.int .i64 b1.kind, .list (ApiType.cellsL b1.elem)]] τ Q := by
 unfold r11_sum at hf
 refine AC.none (AC.of_body 38 [.cell 4 34, .tmp 5] [0, 1] Tryz.func105 rfl rfl rfl rfl rfl (AW.sr (AR.step rfl rfl rfl (AO.box_ref rfl rfl rfl ?_))))
 refine AR.step rfl rfl rfl (AO.box_ref rfl rfl rfl (AR.step rfl rfl rfl (AO.alloc_own rfl zp_34 (fun b4 => (cs 1 rfl (AR.nil [2, 3, 4] rfl ?_))))))
 refine AW.seq (AW.sr (cs 1 rfl ?_))
 obtain ⟨x1, h1, hf⟩ := bind1_inv hf
 refine AR.step rfl rfl rfl (AO.call rfl _ rfl rfl pf_69 (c_r11_loose _ h1 (cs 1 rfl ?_)))
 obtain ⟨b2, h3, hf⟩ := bind1_inv hf
 refine AR.join1 3 9 12 true [2, 3, 4] b2 rfl rfl (fun h2 => ?_) (fun h2 => ?_) ?_
 ·
  replace h3 := ite_T h2 h3
  refine AR.is 9 h2 rfl (cs 1 rfl ?_)
  replace h3 := (bind1_ret _).trans h3
  obtain ⟨x2, h4, h3⟩ := bind1_inv h3
  refine AR.go rfl rfl rfl rfl rfl rfl (AO.call rfl _ rfl rfl pf_69 (c_r11_loose _ h4 ?_))
  obtain rfl := Option.some.inj h3
  refine cs 1 rfl (AR.nil [12, 2, 3, 4] rfl ?_)
  exact ⟨rfl, rfl, rfl, rfl⟩
 ·
  replace h3 := ite_F h2 h3
  refine AR.is 9 h2 rfl ?_
  obtain rfl := Option.some.inj h3
  refine cs 3 rfl (AR.nil [12, 2, 3, 4] rfl ?_)
  exact ⟨rfl, rfl, rfl, rfl⟩
 refine AR.nil [2, 3, 4, 12] rfl (AW.cond rfl (fun h5 => ?_) (fun h5 => ?_))
 ·
  replace hf := ite_T h5 hf
  refine AW.seq (AW.sr (cs 3 rfl (AR.nil [2, 3, 4, 15] rfl ?_)))
  refine AW.cond rfl (fun h6 => ?_) (fun h6 => ?_)
  ·
   replace hf := ite_T h6 hf
   refine AW.sr (cs 1 rfl (AR.step_none rfl rfl (AO.store_box (i := 0) rfl rfl rfl ti_34 rfl rfl rfl rfl rfl (cs 1 rfl ?_))))
   refine AR.nil [4, 5] rfl (AW.ret ?_)
   cases hf
   exact ⟨rfl, _, ⟨_, _, rfl, ⟨_, _, 0, _, _, rfl, rfl, ti_34, rfl⟩, _, _, rfl, rfl, rfl⟩, [], List.nil_sublist _, h⟩
  ·
   replace hf := ite_F h6 hf
   refine AW.skip (AW.sr (cs 1 rfl (AR.step_none rfl rfl (AO.store_box (i := 0) rfl rfl rfl ti_34 rfl rfl rfl rfl rfl ?_))))
   refine cs 1 rfl (AR.nil [4, 5] rfl (AW.ret ?_))
   cases hf
   exact ⟨rfl, _, ⟨_, _, rfl, ⟨_, _, 0, _, _, rfl, rfl, ti_34, rfl⟩, _, _, rfl, rfl, rfl⟩, [], List.nil_sublist _, h⟩
 ·
  replace hf := ite_F h5 hf
  refine AW.skip (AW.sr (cs 2 rfl ?_))
  obtain ⟨kx1, h7, hf⟩ := bind1_inv hf
  refine AR.step rfl rfl rfl (AO.call rfl _ rfl rfl pf_104 (c_r11_common _ _ h7 (cs 1 rfl (AR.nil [2, 3, 4, 6] rfl (AW.seq ?_)))))
  refine AW.sr (cs 2 rfl (AR.nil [2, 3, 4, 6, 22] rfl (AW.cond rfl (fun h8 => ?_) (fun h8 => ?_))))
  ·
   replace hf := ite_T h8 hf
   refine AW.seq (AW.draw 7 mixed (by kernel_rfl) rfl ?_)
   refine Ev.cs FX_ok 2 rfl ?_
   obtain ⟨x3, h9, hf⟩ := bind1_inv hf
   refine Ev.cons rfl rfl rfl (AO.call rfl _ rfl rfl pf_124 (c_r11_element _ h9 ⟨rfl, rfl⟩)) (Ev.cs FX_ok 1 rfl ?_)
   obtain ⟨x4, h10, hf⟩ := bind1_inv hf
   refine Ev.cons rfl rfl rfl (AO.call rfl _ rfl rfl pf_124 (c_r11_element _ h10 ⟨rfl, rfl⟩)) ?_
   obtain ⟨x5, h11, hf⟩ := bind1_inv hf
   refine Ev.cons rfl rfl rfl (AO.call rfl _ rfl rfl pf_75 (c_r08_Join _ _ h11 ⟨rfl, rfl⟩)) ?_
   obtain ⟨x6, h12, hf⟩ := bind1_inv hf
   refine Ev.cons rfl rfl rfl (AO.call rfl _ rfl rfl pf_76 (c_r08_With _ _ h12 ⟨rfl, rfl⟩)) (Ev.nil ?_)
   show AR _ _ _ _ _ _ _ _
   refine AR.step_none rfl rfl (AO.store_box (i := 0) rfl rfl rfl ti_34 rfl rfl rfl rfl rfl (cs 1 rfl (AR.nil [4, 5] rfl (AW.ret ?_))))
   cases hf
   exact ⟨rfl, _, ⟨_, _, rfl, ⟨_, _, 0, _, _, rfl, rfl, ti_34, rfl⟩, _, _, rfl, rfl, rfl⟩, [], List.nil_sublist _, h⟩
  ·
   replace hf := ite_F h8 hf
   refine AW.skip (AW.sr (cs 1 rfl ?_))
   obtain ⟨x7, h13, hf⟩ := bind1_inv hf
   refine AR.step rfl rfl rfl (AO.call rfl _ rfl rfl pf_72 (c_r11_plain _ h13 (cs 3 rfl (AR.or 3 34 37 [4, 31] (x := (kx1 == 4)) rfl rfl (fun h14 => ?_) (fun h14 => ?_) ?_))))
   ·
    refine AR.is 34 h14 rfl (cs 3 rfl (AR.nil [37, 4, 31] rfl ?_))
    exact ⟨rfl, rfl, rfl, rfl⟩
   ·
    refine AR.is 34 h14 rfl (cs 3 rfl (AR.nil [37, 4, 31] rfl ?_))
    exact ⟨rfl, rfl, rfl, rfl⟩
   refine AR.step_none rfl rfl (AO.store_box (i := 0) rfl rfl rfl ti_34 rfl rfl rfl rfl rfl (cs 1 rfl (AR.nil [4, 5] rfl (AW.ret ?_))))
   cases hf
   exact ⟨rfl, _, ⟨_, _, rfl, ⟨_, _, 0, _, _, rfl, rfl, ti_34, rfl⟩, _, _, rfl, rfl, rfl⟩, [], List.nil_sublist _, h⟩

theorem c_r11_binary  (op1 : Str) (a1 : ApiType) (b1 : ApiType) {r0 : ApiType} {r1 : Bool} (hf : r11_binary op1 a1 b1 = some (r0, r1)) {τ : List Res} {Q : AOut → List Res → Prop} (h : Q (.ret (.tuple [.agg [.int .i64 r0.kind, .list (ApiType.cellsL r0.elem)], .bool r1])) τ) : AC Tryz.prog 74 [.str op1, .agg [.int .i64 a1.kind, .list (ApiType.cellsL a1.elem)], .agg [.int .i64 b1.kind, .list (ApiType.cellsL b1.elem)]] τ Q := by
 unfold r11_binary at hf
 refine AC.none (AC.of_body 61 [.cell 6 34, .tmp 7] [0, 1, 2] Tryz.func74 rfl rfl rfl rfl rfl (AW.sr (AR.step rfl rfl rfl (AO.box_ref rfl rfl rfl ?_))))
 refine AR.step rfl rfl rfl (AO.box_ref rfl rfl rfl (AR.step rfl rfl rfl (AO.alloc_own rfl zp_34 (fun b6 => (cs 1 rfl (AR.nil [0, 4, 5, 6] rfl ?_))))))
 refine AW.seq (AW.sr (cs 1 rfl (AR.nil [4, 5, 6, 9] rfl ?_)))
 refine AW.block (AW.seq (AW.sr (cs 2 rfl ?_)))
 refine AR.nil [4, 5, 6, 9, 10] rfl (AW.cond rfl (fun h1 => ?_) (fun h1 => ?_))
 ·
  replace hf := ite_T h1 hf
  refine AW.skip (AW.cond rfl (fun h2 => ?_) (fun h2 => ?_))
  ·
   refine AW.seq (AW.drawG 4 7 8 0 mixed (by kernel_rfl) (by kernel_rfl) (by kernel_rfl) rfl rfl rfl rfl ?_)
   obtain ⟨x1, h3, hf⟩ := bind1_inv hf
   refine Ev.cons rfl rfl rfl (AO.call rfl _ rfl rfl pf_72 (c_r11_plain _ h3 ⟨rfl, rfl⟩)) (Ev.cs FX_ok 1 rfl ?_)
   obtain ⟨x2, h4, hf⟩ := bind1_inv hf
   refine Ev.cons rfl rfl rfl (AO.call rfl _ rfl rfl pf_73 (c_r11_is _ _ h4 ⟨rfl, rfl⟩)) (Ev.cs FX_ok 1 rfl (Ev.nil ?_))
   show Ev _ _ _ _ _ _ _
   obtain ⟨b2, h6, hf⟩ := bind1_inv hf
   refine Ev.join1 hKT 3 16 19 true [6, 13] (.bool b2) rfl rfl (fun h5 => ?_) (fun h5 => ?_) ?_
   ·
    replace h6 := ite_T h5 h6
    refine Ev.is hKL 16 h5 rfl (Ev.cs FX_ok 1 rfl ?_)
    replace h6 := (bind1_ret _).trans h6
    obtain ⟨x3, h7, h6⟩ := bind1_inv h6
    refine Ev.run rfl rfl rfl rfl rfl rfl rfl (AO.call rfl _ rfl rfl pf_73 (c_r11_is _ _ h7 ⟨rfl, rfl⟩)) ?_
    obtain rfl := Option.some.inj h6
    refine Ev.cs FX_ok 1 rfl ?_
    exact Ev.nil (Less.settle (ps := [19, 6, 13]) rfl)
   ·
    replace h6 := ite_F h5 h6
    refine Ev.is hKL 16 h5 rfl ?_
    obtain rfl := Option.some.inj h6
    refine Ev.cs FX_ok 3 rfl ?_
    exact Ev.nil (Less.settle (ps := [19, 6, 13]) rfl)
   refine Ev.nil (TF.step_none rfl rfl (AO.store_box (i := 0) rfl rfl rfl ti_34 rfl rfl rfl rfl rfl (TF.nil ?_)))
   show AR _ _ _ _ _ _ _ _
   refine cs 1 rfl (AR.nil [6, 7] rfl (AW.ret ?_))
   cases hf
   exact ⟨rfl, _, ⟨_, _, rfl, ⟨_, _, 0, _, _, rfl, rfl, ti_34, rfl⟩, _, _, rfl, rfl, rfl⟩, [], List.nil_sublist _, h⟩
  ·
   cases h1.symm.trans h2
 ·
  replace hf := ite_F h1 hf
  refine AW.region (cs 2 rfl (AR.nil [4, 5, 6, 9, 10] rfl (AW.cond rfl (fun h8 => ?_) (fun h8 => ?_))))
  ·
   replace hf := ite_T h8 hf
   refine AW.seq (AW.drawG 4 7 8 0 mixed (by kernel_rfl) (by kernel_rfl) (by kernel_rfl) rfl rfl rfl rfl ?_)
   obtain ⟨x4, h9, hf⟩ := bind1_inv hf
   refine Ev.cons rfl rfl rfl (AO.call rfl _ rfl rfl pf_72 (c_r11_plain _ h9 ⟨rfl, rfl⟩)) (Ev.cs FX_ok 1 rfl ?_)
   obtain ⟨x5, h10, hf⟩ := bind1_inv hf
   refine Ev.cons rfl rfl rfl (AO.call rfl _ rfl rfl pf_73 (c_r11_is _ _ h10 ⟨rfl, rfl⟩)) (Ev.cs FX_ok 1 rfl (Ev.nil ?_))
   show Ev _ _ _ _ _ _ _
   obtain ⟨b3, h12, hf⟩ := bind1_inv hf
   refine Ev.join1 hKT 3 16 19 true [6, 13] (.bool b3) rfl rfl (fun h11 => ?_) (fun h11 => ?_) ?_
   ·
    replace h12 := ite_T h11 h12
    refine Ev.is hKL 16 h11 rfl (Ev.cs FX_ok 1 rfl ?_)
    replace h12 := (bind1_ret _).trans h12
    obtain ⟨x6, h13, h12⟩ := bind1_inv h12
    refine Ev.run rfl rfl rfl rfl rfl rfl rfl (AO.call rfl _ rfl rfl pf_73 (c_r11_is _ _ h13 ⟨rfl, rfl⟩)) ?_
    obtain rfl := Option.some.inj h12
    refine Ev.cs FX_ok 1 rfl ?_
    exact Ev.nil (Less.settle (ps := [19, 6, 13]) rfl)
   ·
    replace h12 := ite_F h11 h12
    refine Ev.is hKL 16 h11 rfl ?_
    obtain rfl := Option.some.inj h12
    refine Ev.cs FX_ok 3 rfl ?_
    exact Ev.nil (Less.settle (ps := [19, 6, 13]) rfl)
   refine Ev.nil (TF.step_none rfl rfl (AO.store_box (i := 0) rfl rfl rfl ti_34 rfl rfl rfl rfl rfl (TF.nil ?_)))
   show AR _ _ _ _ _ _ _ _
   refine cs 1 rfl (AR.nil [6, 7] rfl (AW.ret ?_))
   cases hf
   exact ⟨rfl, _, ⟨_, _, rfl, ⟨_, _, 0, _, _, rfl, rfl, ti_34, rfl⟩, _, _, rfl, rfl, rfl⟩, [], List.nil_sublist _, h⟩
  ·
   replace hf := ite_F h8 hf
   refine AW.seq (AW.sr (cs 2 rfl (AR.nil [4, 5, 6, 9, 20] rfl ?_)))
   refine AW.cond rfl (fun h14 => ?_) (fun h14 => ?_)
   ·
    replace hf := ite_T h14 hf
    refine AW.skip (AW.cond rfl (fun h15 => ?_) (fun h15 => ?_))
    ·
     refine AW.sr ?_
     obtain ⟨x7, h16, hf⟩ := bind1_inv hf
     refine AR.step rfl rfl rfl (AO.call rfl _ rfl rfl pf_72 (c_r11_plain _ h16 (AR.step_none rfl rfl (AO.store_box (i := 0) rfl rfl rfl ti_34 rfl rfl rfl rfl rfl (cs 1 rfl (AR.nil [6, 7] rfl ?_))))))
     refine AW.ret ?_
     cases hf
     exact ⟨rfl, _, ⟨_, _, rfl, ⟨_, _, 0, _, _, rfl, rfl, ti_34, rfl⟩, _, _, rfl, rfl, rfl⟩, [], List.nil_sublist _, h⟩
    ·
     cases h14.symm.trans h15
   ·
    replace hf := ite_F h14 hf
    refine AW.region (cs 2 rfl (AR.nil [4, 5, 6, 9, 20] rfl (AW.cond rfl (fun h17 => ?_) (fun h17 => ?_))))
    ·
     replace hf := ite_T h17 hf
     refine AW.sr ?_
     obtain ⟨x8, h18, hf⟩ := bind1_inv hf
     refine AR.step rfl rfl rfl (AO.call rfl _ rfl rfl pf_72 (c_r11_plain _ h18 (AR.step_none rfl rfl (AO.store_box (i := 0) rfl rfl rfl ti_34 rfl rfl rfl rfl rfl (cs 1 rfl (AR.nil [6, 7] rfl ?_))))))
     refine AW.ret ?_
     cases hf
     exact ⟨rfl, _, ⟨_, _, rfl, ⟨_, _, 0, _, _, rfl, rfl, ti_34, rfl⟩, _, _, rfl, rfl, rfl⟩, [], List.nil_sublist _, h⟩
    ·
     replace hf := ite_F h17 hf
     refine AW.seq (AW.sr (cs 2 rfl (AR.nil [4, 5, 6, 9, 24] rfl ?_)))
     refine AW.cond rfl (fun h19 => ?_) (fun h19 => ?_)
     ·
      replace hf := ite_T h19 hf
      refine AW.skip (AW.cond rfl (fun h20 => ?_) (fun h20 => ?_))
      ·
       refine AW.sr (cs 2 rfl ?_)
       obtain ⟨kx1, h21, hf⟩ := bind1_inv hf
       refine AR.step rfl rfl rfl (AO.call rfl _ rfl rfl pf_104 (c_r11_common _ _ h21 (cs 1 rfl (AR.nil [4, 5, 6, 8] rfl (AW.seq ?_)))))
       refine AW.drawG 12 15 16 0 mixed (by kernel_rfl) (by kernel_rfl) (by kernel_rfl) rfl rfl rfl rfl ?_
       obtain ⟨x9, h22, hf⟩ := bind1_inv hf
       refine Ev.cons rfl rfl rfl (AO.call rfl _ rfl rfl pf_72 (c_r11_plain _ h22 ⟨rfl, rfl⟩)) (Ev.cs FX_ok 1 rfl ?_)
       obtain ⟨x10, h23, hf⟩ := bind1_inv hf
       refine Ev.cons rfl rfl rfl (AO.call rfl _ rfl rfl pf_69 (c_r11_loose _ h23 ⟨rfl, rfl⟩)) (Ev.cs FX_ok 1 rfl ?_)
       obtain ⟨b4, h25, hf⟩ := bind1_inv hf
       refine Ev.join1 (hKE hKT) 3 35 38 true [6, 8, 32] (.bool b4) rfl rfl (fun h24 => ?_) (fun h24 => ?_) ?_
       ·
        replace h25 := ite_T h24 h25
        refine Ev.is hKL 35 h24 rfl (Ev.cs FX_ok 1 rfl ?_)
        replace h25 := (bind1_ret _).trans h25
        obtain ⟨x11, h26, h25⟩ := bind1_inv h25
        refine Ev.run rfl rfl rfl rfl rfl rfl rfl (AO.call rfl _ rfl rfl pf_69 (c_r11_loose _ h26 ⟨rfl, rfl⟩)) ?_
        obtain rfl := Option.some.inj h25
        refine Ev.cs FX_ok 1 rfl ?_
        exact Ev.nil (Less.settle (ps := [38, 6, 8, 32]) rfl)
       ·
        replace h25 := ite_F h24 h25
        refine Ev.is hKL 35 h24 rfl ?_
        obtain rfl := Option.some.inj h25
        refine Ev.cs FX_ok 3 rfl ?_
        exact Ev.nil (Less.settle (ps := [38, 6, 8, 32]) rfl)
       refine Ev.cs FX_ok 1 rfl (Ev.or1 (hKE hKT) 3 39 42 [6, 8, 32] (kx1 == 3) rfl rfl (fun h27 => ?_) (fun h27 => ?_) ?_)
       ·
        refine Ev.is hKL 39 h27 rfl (Ev.cs FX_ok 3 rfl ?_)
        exact Ev.nil (Less.settle (ps := [42, 6, 8, 32]) rfl)
       ·
        refine Ev.is hKL 39 h27 rfl (Ev.cs FX_ok 3 rfl ?_)
        exact Ev.nil (Less.settle (ps := [42, 6, 8, 32]) rfl)
       refine Ev.cs FX_ok 1 rfl (Ev.nil ?_)
       show Ev _ _ _ _ _ _ _
       refine Ev.or1 hKT 3 43 46 [6, 32] (kx1 == 4) rfl rfl (fun h28 => ?_) (fun h28 => ?_) ?_
       ·
        refine Ev.is hKL 43 h28 rfl (Ev.cs FX_ok 3 rfl ?_)
        exact Ev.nil (Less.settle (ps := [46, 6, 32]) rfl)
       ·
        refine Ev.is hKL 43 h28 rfl (Ev.cs FX_ok 3 rfl ?_)
        exact Ev.nil (Less.settle (ps := [46, 6, 32]) rfl)
       refine Ev.nil (TF.step_none rfl rfl (AO.store_box (i := 0) rfl rfl rfl ti_34 rfl rfl rfl rfl rfl (TF.nil ?_)))
       show AR _ _ _ _ _ _ _ _
       refine cs 1 rfl (AR.nil [6, 7] rfl (AW.ret ?_))
       cases hf
       exact ⟨rfl, _, ⟨_, _, rfl, ⟨_, _, 0, _, _, rfl, rfl, ti_34, rfl⟩, _, _, rfl, rfl, rfl⟩, [], List.nil_sublist _, h⟩
      ·
       cases h19.symm.trans h20
     ·
      replace hf := ite_F h19 hf
      refine AW.sr (cs 2 rfl (AR.nil [4, 5, 6, 9, 24] rfl (AW.cond rfl (fun h29 => ?_) (fun h29 => ?_))))
      ·
       replace hf := ite_T h29 hf
       refine AW.skip (AW.cond rfl (fun h30 => ?_) (fun h30 => ?_))
       ·
        refine AW.sr (cs 2 rfl ?_)
        obtain ⟨kx2, h31, hf⟩ := bind1_inv hf
        refine AR.step rfl rfl rfl (AO.call rfl _ rfl rfl pf_104 (c_r11_common _ _ h31 (cs 1 rfl (AR.nil [4, 5, 6, 8] rfl (AW.seq ?_)))))
        refine AW.drawG 12 15 16 0 mixed (by kernel_rfl) (by kernel_rfl) (by kernel_rfl) rfl rfl rfl rfl ?_
        obtain ⟨x12, h32, hf⟩ := bind1_inv hf
        refine Ev.cons rfl rfl rfl (AO.call rfl _ rfl rfl pf_72 (c_r11_plain _ h32 ⟨rfl, rfl⟩)) (Ev.cs FX_ok 1 rfl ?_)
        obtain ⟨x13, h33, hf⟩ := bind1_inv hf
        refine Ev.cons rfl rfl rfl (AO.call rfl _ rfl rfl pf_69 (c_r11_loose _ h33 ⟨rfl, rfl⟩)) (Ev.cs FX_ok 1 rfl ?_)
        obtain ⟨b5, h35, hf⟩ := bind1_inv hf
        refine Ev.join1 (hKE hKT) 3 35 38 true [6, 8, 32] (.bool b5) rfl rfl (fun h34 => ?_) (fun h34 => ?_) ?_
        ·
         replace h35 := ite_T h34 h35
         refine Ev.is hKL 35 h34 rfl (Ev.cs FX_ok 1 rfl ?_)
         replace h35 := (bind1_ret _).trans h35
         obtain ⟨x14, h36, h35⟩ := bind1_inv h35
         refine Ev.run rfl rfl rfl rfl rfl rfl rfl (AO.call rfl _ rfl rfl pf_69 (c_r11_loose _ h36 ⟨rfl, rfl⟩)) ?_
         obtain rfl := Option.some.inj h35
         refine Ev.cs FX_ok 1 rfl ?_
         exact Ev.nil (Less.settle (ps := [38, 6, 8, 32]) rfl)
        ·
         replace h35 := ite_F h34 h35
         refine Ev.is hKL 35 h34 rfl ?_
         obtain rfl := Option.some.inj h35
         refine Ev.cs FX_ok 3 rfl ?_
         exact Ev.nil (Less.settle (ps := [38, 6, 8, 32]) rfl)
        refine Ev.cs FX_ok 1 rfl (Ev.or1 (hKE hKT) 3 39 42 [6, 8, 32] (kx2 == 3) rfl rfl (fun h37 => ?_) (fun h37 => ?_) ?_)
        ·
         refine Ev.is hKL 39 h37 rfl (Ev.cs FX_ok 3 rfl ?_)
         exact Ev.nil (Less.settle (ps := [42, 6, 8, 32]) rfl)
        ·
         refine Ev.is hKL 39 h37 rfl (Ev.cs FX_ok 3 rfl ?_)
         exact Ev.nil (Less.settle (ps := [42, 6, 8, 32]) rfl)
        refine Ev.cs FX_ok 1 rfl (Ev.nil ?_)
        show Ev _ _ _ _ _ _ _
        refine Ev.or1 hKT 3 43 46 [6, 32] (kx2 == 4) rfl rfl (fun h38 => ?_) (fun h38 => ?_) ?_
        ·
         refine Ev.is hKL 43 h38 rfl (Ev.cs FX_ok 3 rfl ?_)
         exact Ev.nil (Less.settle (ps := [46, 6, 32]) rfl)
        ·
         refine Ev.is hKL 43 h38 rfl (Ev.cs FX_ok 3 rfl ?_)
         exact Ev.nil (Less.settle (ps := [46, 6, 32]) rfl)
        refine Ev.nil (TF.step_none rfl rfl (AO.store_box (i := 0) rfl rfl rfl ti_34 rfl rfl rfl rfl rfl (TF.nil ?_)))
        show AR _ _ _ _ _ _ _ _
        refine cs 1 rfl (AR.nil [6, 7] rfl (AW.ret ?_))
        cases hf
        exact ⟨rfl, _, ⟨_, _, rfl, ⟨_, _, 0, _, _, rfl, rfl, ti_34, rfl⟩, _, _, rfl, rfl, rfl⟩, [], List.nil_sublist _, h⟩
       ·
        cases h29.symm.trans h30
      ·
       replace hf := ite_F h29 hf
       refine AW.sr (cs 2 rfl (AR.nil [4, 5, 6, 9, 24] rfl (AW.cond rfl (fun h39 => ?_) (fun h39 => ?_))))
       ·
        replace hf := ite_T h39 hf
        refine AW.skip (AW.cond rfl (fun h40 => ?_) (fun h40 => ?_))
        ·
         refine AW.sr (cs 2 rfl ?_)
         obtain ⟨kx3, h41, hf⟩ := bind1_inv hf
         refine AR.step rfl rfl rfl (AO.call rfl _ rfl rfl pf_104 (c_r11_common _ _ h41 (cs 1 rfl (AR.nil [4, 5, 6, 8] rfl (AW.seq ?_)))))
         refine AW.drawG 12 15 16 0 mixed (by kernel_rfl) (by kernel_rfl) (by kernel_rfl) rfl rfl rfl rfl ?_
         obtain ⟨x15, h42, hf⟩ := bind1_inv hf
         refine Ev.cons rfl rfl rfl (AO.call rfl _ rfl rfl pf_72 (c_r11_plain _ h42 ⟨rfl, rfl⟩)) (Ev.cs FX_ok 1 rfl ?_)
         obtain ⟨x16, h43, hf⟩ := bind1_inv hf
         refine Ev.cons rfl rfl rfl (AO.call rfl _ rfl rfl pf_69 (c_r11_loose _ h43 ⟨rfl, rfl⟩)) (Ev.cs FX_ok 1 rfl ?_)
         obtain ⟨b6, h45, hf⟩ := bind1_inv hf
         refine Ev.join1 (hKE hKT) 3 35 38 true [6, 8, 32] (.bool b6) rfl rfl (fun h44 => ?_) (fun h44 => ?_) ?_
         ·
          replace h45 := ite_T h44 h45
          refine Ev.is hKL 35 h44 rfl (Ev.cs FX_ok 1 rfl ?_)
          replace h45 := (bind1_ret _).trans h45
          obtain ⟨x17, h46, h45⟩ := bind1_inv h45
          refine Ev.run rfl rfl rfl rfl rfl rfl rfl (AO.call rfl _ rfl rfl pf_69 (c_r11_loose _ h46 ⟨rfl, rfl⟩)) ?_
          obtain rfl := Option.some.inj h45
          refine Ev.cs FX_ok 1 rfl ?_
          exact Ev.nil (Less.settle (ps := [38, 6, 8, 32]) rfl)
         ·
          replace h45 := ite_F h44 h45
          refine Ev.is hKL 35 h44 rfl ?_
          obtain rfl := Option.some.inj h45
          refine Ev.cs FX_ok 3 rfl ?_
          exact Ev.nil (Less.settle (ps := [38, 6, 8, 32]) rfl)
         refine Ev.cs FX_ok 1 rfl (Ev.or1 (hKE hKT) 3 39 42 [6, 8, 32] (kx3 == 3) rfl rfl (fun h47 => ?_) (fun h47 => ?_) ?_)
         ·
          refine Ev.is hKL 39 h47 rfl (Ev.cs FX_ok 3 rfl ?_)
          exact Ev.nil (Less.settle (ps := [42, 6, 8, 32]) rfl)
         ·
          refine Ev.is hKL 39 h47 rfl (Ev.cs FX_ok 3 rfl ?_)
          exact Ev.nil (Less.settle (ps := [42, 6, 8, 32]) rfl)
         refine Ev.cs FX_ok 1 rfl (Ev.nil ?_)
         show Ev _ _ _ _ _ _ _
         refine Ev.or1 hKT 3 43 46 [6, 32] (kx3 == 4) rfl rfl (fun h48 => ?_) (fun h48 => ?_) ?_
         ·
          refine Ev.is hKL 43 h48 rfl (Ev.cs FX_ok 3 rfl ?_)
          exact Ev.nil (Less.settle (ps := [46, 6, 32]) rfl)
         ·
          refine Ev.is hKL 43 h48 rfl (Ev.cs FX_ok 3 rfl ?_)
          exact Ev.nil (Less.settle (ps := [46, 6, 32]) rfl)
         refine Ev.nil (TF.step_none rfl rfl (AO.store_box (i := 0) rfl rfl rfl ti_34 rfl rfl rfl rfl rfl (TF.nil ?_)))
         show AR _ _ _ _ _ _ _ _
         refine cs 1 rfl (AR.nil [6, 7] rfl (AW.ret ?_))
         cases hf
         exact ⟨rfl, _, ⟨_, _, rfl, ⟨_, _, 0, _, _, rfl, rfl, ti_34, rfl⟩, _, _, rfl, rfl, rfl⟩, [], List.nil_sublist _, h⟩
        ·
         cases h39.symm.trans h40
       ·
        replace hf := ite_F h39 hf
        refine AW.region (cs 2 rfl (AR.nil [4, 5, 6, 9, 24] rfl (AW.cond rfl (fun h49 => ?_) (fun h49 => ?_))))
        ·
         replace hf := ite_T h49 hf
         refine AW.sr (cs 2 rfl ?_)
         obtain ⟨kx4, h50, hf⟩ := bind1_inv hf
         refine AR.step rfl rfl rfl (AO.call rfl _ rfl rfl pf_104 (c_r11_common _ _ h50 (cs 1 rfl (AR.nil [4, 5, 6, 8] rfl (AW.seq ?_)))))
         refine AW.drawG 12 15 16 0 mixed (by kernel_rfl) (by kernel_rfl) (by kernel_rfl) rfl rfl rfl rfl ?_
         obtain ⟨x18, h51, hf⟩ := bind1_inv hf
         refine Ev.cons rfl rfl rfl (AO.call rfl _ rfl rfl pf_72 (c_r11_plain _ h51 ⟨rfl, rfl⟩)) (Ev.cs FX_ok 1 rfl ?_)
         obtain ⟨x19, h52, hf⟩ := bind1_inv hf
         refine Ev.cons rfl rfl rfl (AO.call rfl _ rfl rfl pf_69 (c_r11_loose _ h52 ⟨rfl, rfl⟩)) (Ev.cs FX_ok 1 rfl ?_)
         obtain ⟨b7, h54, hf⟩ := bind1_inv hf
         refine Ev.join1 (hKE hKT) 3 35 38 true [6, 8, 32] (.bool b7) rfl rfl (fun h53 => ?_) (fun h53 => ?_) ?_
         ·
          replace h54 := ite_T h53 h54
          refine Ev.is hKL 35 h53 rfl (Ev.cs FX_ok 1 rfl ?_)
          replace h54 := (bind1_ret _).trans h54
          obtain ⟨x20, h55, h54⟩ := bind1_inv h54
          refine Ev.run rfl rfl rfl rfl rfl rfl rfl (AO.call rfl _ rfl rfl pf_69 (c_r11_loose _ h55 ⟨rfl, rfl⟩)) ?_
          obtain rfl := Option.some.inj h54
          refine Ev.cs FX_ok 1 rfl ?_
          exact Ev.nil (Less.settle (ps := [38, 6, 8, 32]) rfl)
         ·
          replace h54 := ite_F h53 h54
          refine Ev.is hKL 35 h53 rfl ?_
          obtain rfl := Option.some.inj h54
          refine Ev.cs FX_ok 3 rfl ?_
          exact Ev.nil (Less.settle (ps := [38, 6, 8, 32]) rfl)
         refine Ev.cs FX_ok 1 rfl (Ev.or1 (hKE hKT) 3 39 42 [6, 8, 32] (kx4 == 3) rfl rfl (fun h56 => ?_) (fun h56 => ?_) ?_)
         ·
          refine Ev.is hKL 39 h56 rfl (Ev.cs FX_ok 3 rfl ?_)
          exact Ev.nil (Less.settle (ps := [42, 6, 8, 32]) rfl)
         ·
          refine Ev.is hKL 39 h56 rfl (Ev.cs FX_ok 3 rfl ?_)
          exact Ev.nil (Less.settle (ps := [42, 6, 8, 32]) rfl)
         refine Ev.cs FX_ok 1 rfl (Ev.nil ?_)
         show Ev _ _ _ _ _ _ _
         refine Ev.or1 hKT 3 43 46 [6, 32] (kx4 == 4) rfl rfl (fun h57 => ?_) (fun h57 => ?_) ?_
         ·
          refine Ev.is hKL 43 h57 rfl (Ev.cs FX_ok 3 rfl ?_)
          exact Ev.nil (Less.settle (ps := [46, 6, 32]) rfl)
         ·
          refine Ev.is hKL 43 h57 rfl (Ev.cs FX_ok 3 rfl ?_)
          exact Ev.nil (Less.settle (ps := [46, 6, 32]) rfl)
         refine Ev.nil (TF.step_none rfl rfl (AO.store_box (i := 0) rfl rfl rfl ti_34 rfl rfl rfl rfl rfl (TF.nil ?_)))
         show AR _ _ _ _ _ _ _ _
         refine cs 1 rfl (AR.nil [6, 7] rfl (AW.ret ?_))
         cases hf
         exact ⟨rfl, _, ⟨_, _, rfl, ⟨_, _, 0, _, _, rfl, rfl, ti_34, rfl⟩, _, _, rfl, rfl, rfl⟩, [], List.nil_sublist _, h⟩
        ·
         replace hf := ite_F h49 hf
         refine AW.sr (cs 2 rfl (AR.nil [4, 5, 6, 47] rfl (AW.cond rfl (fun h58 => ?_) (fun h58 => ?_))))
         ·
          replace hf := ite_T h58 hf
          refine AW.sr (cs 2 rfl ?_)
          replace hf := (bind2_ret _).trans hf
          obtain ⟨x21, x22, h59, hf⟩ := bind2_inv hf
          refine AR.step rfl rfl rfl (AO.call rfl _ rfl rfl pf_105 (c_r11_sum _ _ h59 (cs 2 rfl (AR.step_none rfl rfl (AO.store_box (i := 0) rfl rfl rfl ti_34 rfl rfl rfl rfl rfl (cs 1 rfl ?_))))))
          refine AR.nil [6, 7] rfl (AW.ret ?_)
          cases hf
          exact ⟨rfl, _, ⟨_, _, rfl, ⟨_, _, 0, _, _, rfl, rfl, ti_34, rfl⟩, _, _, rfl, rfl, rfl⟩, [], List.nil_sublist _, h⟩
         ·
          replace hf := ite_F h58 hf
          refine AW.skip (AW.seq (AW.drawG 4 7 8 0 mixed (by kernel_rfl) (by kernel_rfl) (by kernel_rfl) rfl rfl rfl rfl ?_))
          obtain ⟨x23, h60, hf⟩ := bind1_inv hf
          refine Ev.cons rfl rfl rfl (AO.call rfl _ rfl rfl pf_72 (c_r11_plain _ h60 ⟨rfl, rfl⟩)) (Ev.cs FX_ok 1 rfl ?_)
          obtain ⟨x24, h61, hf⟩ := bind1_inv hf
          refine Ev.cons rfl rfl rfl (AO.call rfl _ rfl rfl pf_73 (c_r11_is _ _ h61 ⟨rfl, rfl⟩)) (Ev.cs FX_ok 1 rfl (Ev.nil ?_))
          show Ev _ _ _ _ _ _ _
          obtain ⟨b8, h63, hf⟩ := bind1_inv hf
          refine Ev.join1 hKT 3 57 60 true [6, 54] (.bool b8) rfl rfl (fun h62 => ?_) (fun h62 => ?_) ?_
          ·
           replace h63 := ite_T h62 h63
           refine Ev.is hKL 57 h62 rfl (Ev.cs FX_ok 1 rfl ?_)
           replace h63 := (bind1_ret _).trans h63
           obtain ⟨x25, h64, h63⟩ := bind1_inv h63
           refine Ev.run rfl rfl rfl rfl rfl rfl rfl (AO.call rfl _ rfl rfl pf_73 (c_r11_is _ _ h64 ⟨rfl, rfl⟩)) ?_
           obtain rfl := Option.some.inj h63
           refine Ev.cs FX_ok 1 rfl ?_
           exact Ev.nil (Less.settle (ps := [60, 6, 54]) rfl)
          ·
           replace h63 := ite_F h62 h63
           refine Ev.is hKL 57 h62 rfl ?_
           obtain rfl := Option.some.inj h63
           refine Ev.cs FX_ok 3 rfl ?_
           exact Ev.nil (Less.settle (ps := [60, 6, 54]) rfl)
          refine Ev.nil (TF.step_none rfl rfl (AO.store_box (i := 0) rfl rfl rfl ti_34 rfl rfl rfl rfl rfl (TF.nil ?_)))
          show AR _ _ _ _ _ _ _ _
          refine cs 1 rfl (AR.nil [6, 7] rfl (AW.ret ?_))
          cases hf
          exact ⟨rfl, _, ⟨_, _, rfl, ⟨_, _, 0, _, _, rfl, rfl, ti_34, rfl⟩, _, _, rfl, rfl, rfl⟩, [], List.nil_sublist _, h⟩

theorem c_r11_node  (e1 : ApiExpr) (l1 : List ApiType) {r0 : ApiType} {r1 : Bool} (hf : r11_node e1 l1 = some (r0, r1)) {τ : List Res} {Q : AOut → List Res → Prop} (h : Q (.ret (.tuple [.agg [.int .i64 r0.kind, .list (ApiType.cellsL r0.elem)], .bool r1])) τ) : AC Tryz.prog 47 [.agg [.int .i64 e1.kind, .str e1.name, .int .i64 e1.value.kind, .bool e1.value.bool_, .int .i64 e1.value.int_, .str e1.value.str_, .list (ApiValue.cellsL e1.value.list_), .list (List.map strC e1.value.keys), .list (ApiExpr.cellsL e1.args), .list (List.map strC e1.keys)], .list (ApiType.cellsL l1)] τ Q := by
 unfold r11_node at hf
 refine AC.none (AC.of_body 108 [.cell 4 34, .tmp 5] [0, 1] Tryz.func47 rfl rfl rfl rfl rfl (AW.sr (AR.step rfl rfl rfl (AO.box_ref rfl rfl rfl ?_))))
 refine AR.step rfl rfl rfl (AO.alloc_own rfl zp_34 (fun b4 => (cs 1 rfl (AR.nil [1, 2, 4] rfl (AW.seq ?_)))))
 refine AW.sr (cs 2 rfl (AR.nil [1, 2, 4, 10] rfl (AW.block ?_)))
 refine AW.sr (cs 2 rfl (AR.nil [1, 2, 4, 10, 11] rfl (AW.cond rfl (fun h1 => ?_) (fun h1 => ?_))))
 ·
  replace hf := ite_T h1 hf
  refine AW.seq (AW.sr (cs 1 rfl ?_))
  obtain ⟨e2, h2, hf⟩ := bind1_inv hf
  refine AR.step rfl rfl rfl (AO.idx_list h2 rfl rfl (ApiType.cellsL_eq _) rfl es_32 (ApiType.cells_eq _) rfl (cs 3 rfl (AR.nil [1, 4, 17] rfl (AW.cond rfl (fun h3 => ?_) (fun h3 => ?_)))))
  ·
   replace hf := ite_T h3 hf
   refine AW.sr (cs 1 rfl ?_)
   obtain ⟨e3, h4, hf⟩ := bind1_inv hf
   refine AR.step rfl rfl rfl (AO.idx_list h4 rfl rfl (ApiType.cellsL_eq _) rfl es_32 (ApiType.cells_eq _) rfl (cs 2 rfl ?_))
   obtain ⟨e4, h5, hf⟩ := bind1_inv hf
   refine AR.step rfl rfl rfl (AO.idx_list h5 rfl rfl (ApiType.cellsL_eq _) rfl es_32 (ApiType.cells_eq _) rfl (cs 1 rfl (AR.step_none rfl rfl (AO.store_box (i := 0) rfl rfl rfl ti_34 rfl rfl rfl rfl rfl (cs 1 rfl ?_)))))
   refine AR.nil [4, 5] rfl (AW.ret ?_)
   cases hf
   exact ⟨rfl, _, ⟨_, _, rfl, ⟨_, _, 0, _, _, rfl, rfl, ti_34, rfl⟩, _, _, rfl, rfl, rfl⟩, [], List.nil_sublist _, h⟩
  ·
   replace hf := ite_F h3 hf
   refine AW.skip (AW.seq (AW.draw 7 mixed (by kernel_rfl) rfl ?_))
   refine Ev.cs FX_ok 1 rfl ?_
   obtain ⟨e5, h6, hf⟩ := bind1_inv hf
   refine Ev.cons rfl rfl rfl (AO.idx_list h6 rfl rfl (ApiType.cellsL_eq _) rfl es_32 (ApiType.cells_eq _) rfl ⟨rfl, rfl⟩) (Ev.cs FX_ok 2 rfl ?_)
   obtain ⟨e6, h7, hf⟩ := bind1_inv hf
   refine Ev.cons rfl rfl rfl (AO.idx_list h7 rfl rfl (ApiType.cellsL_eq _) rfl es_32 (ApiType.cells_eq _) rfl ⟨rfl, rfl⟩) (Ev.cs FX_ok 1 rfl ?_)
   obtain ⟨x1, h8, hf⟩ := bind1_inv hf
   refine Ev.cons rfl rfl rfl (AO.call rfl _ rfl rfl pf_69 (c_r11_loose _ h8 ⟨rfl, rfl⟩)) (Ev.nil ?_)
   show AR _ _ _ _ _ _ _ _
   refine AR.step_none rfl rfl (AO.store_box (i := 0) rfl rfl rfl ti_34 rfl rfl rfl rfl rfl (cs 1 rfl (AR.nil [4, 5] rfl (AW.ret ?_))))
   cases hf
   exact ⟨rfl, _, ⟨_, _, rfl, ⟨_, _, 0, _, _, rfl, rfl, ti_34, rfl⟩, _, _, rfl, rfl, rfl⟩, [], List.nil_sublist _, h⟩
 ·
  replace hf := ite_F h1 hf
  refine AW.sr (cs 2 rfl (AR.nil [1, 2, 4, 10, 31] rfl (AW.cond rfl (fun h9 => ?_) (fun h9 => ?_))))
  ·
   replace hf := ite_T h9 hf
   refine AW.seq (AW.draw 9 mixed (by kernel_rfl) rfl ?_)
   refine Ev.cs FX_ok 1 rfl ?_
   obtain ⟨e7, h10, hf⟩ := bind1_inv hf
   refine Ev.cons rfl rfl rfl (AO.idx_list h10 rfl rfl (ApiType.cellsL_eq _) rfl es_32 (ApiType.cells_eq _) rfl ⟨rfl, rfl⟩) (Ev.cs FX_ok 2 rfl ?_)
   obtain ⟨e8, h11, hf⟩ := bind1_inv hf
   refine Ev.cons rfl rfl rfl (AO.idx_list h11 rfl rfl (ApiType.cellsL_eq _) rfl es_32 (ApiType.cells_eq _) rfl ⟨rfl, rfl⟩) (Ev.cs FX_ok 1 rfl ?_)
   replace hf := (bind2_ret _).trans hf
   obtain ⟨x2, x3, h12, hf⟩ := bind2_inv hf
   refine Ev.cons rfl rfl rfl (AO.call rfl _ rfl rfl pf_70 (c_r11_index _ _ h12 ⟨rfl, rfl⟩)) (Ev.cs FX_ok 2 rfl (Ev.nil ?_))
   show AR _ _ _ _ _ _ _ _
   refine AR.step_none rfl rfl (AO.store_box (i := 0) rfl rfl rfl ti_34 rfl rfl rfl rfl rfl (cs 1 rfl (AR.nil [4, 5] rfl (AW.ret ?_))))
   cases hf
   exact ⟨rfl, _, ⟨_, _, rfl, ⟨_, _, 0, _, _, rfl, rfl, ti_34, rfl⟩, _, _, rfl, rfl, rfl⟩, [], List.nil_sublist _, h⟩
  ·
   replace hf := ite_F h9 hf
   refine AW.sr (cs 2 rfl (AR.nil [1, 2, 4, 10, 42] rfl (AW.cond rfl (fun h13 => ?_) (fun h13 => ?_))))
   ·
    replace hf := ite_T h13 hf
    refine AW.sr (cs 3 rfl ?_)
    replace hf := (bind2_ret _).trans hf
    obtain ⟨x4, x5, h14, hf⟩ := bind2_inv hf
    refine AR.step rfl rfl rfl (AO.call rfl _ rfl rfl pf_71 (c_r11_call _ _ h14 (cs 2 rfl (AR.step_none rfl rfl (AO.store_box (i := 0) rfl rfl rfl ti_34 rfl rfl rfl rfl rfl (cs 1 rfl ?_))))))
    refine AR.nil [4, 5] rfl (AW.ret ?_)
    cases hf
    exact ⟨rfl, _, ⟨_, _, rfl, ⟨_, _, 0, _, _, rfl, rfl, ti_34, rfl⟩, _, _, rfl, rfl, rfl⟩, [], List.nil_sublist _, h⟩
   ·
    replace hf := ite_F h13 hf
    refine AW.sr (cs 2 rfl (AR.nil [1, 2, 4, 10, 50] rfl (AW.cond rfl (fun h15 => ?_) (fun h15 => ?_))))
    ·
     replace hf := ite_T h15 hf
     refine AW.sr (cs 1 rfl (AR.nil [1, 2, 4, 6] rfl (AW.seq ?_)))
     refine AW.sr (cs 3 rfl (AR.nil [1, 4, 6, 54] rfl (AW.cond rfl (fun h16 => ?_) (fun h16 => ?_))))
     ·
      replace hf := ite_T h16 hf
      refine AW.region (cs 1 rfl (AR.nil [1, 4, 6] rfl (AW.seq ?_)))
      refine AW.draw 7 mixed (by kernel_rfl) rfl ?_
      refine Ev.cs FX_ok 1 rfl ?_
      obtain ⟨x6, h17, hf⟩ := bind1_inv hf
      refine Ev.cons rfl rfl rfl (AO.call rfl _ rfl rfl pf_72 (c_r11_plain _ h17 ⟨rfl, rfl⟩)) (Ev.cs FX_ok 1 rfl ?_)
      obtain ⟨e9, h18, hf⟩ := bind1_inv hf
      refine Ev.cons rfl rfl rfl (AO.idx_list h18 rfl rfl (ApiType.cellsL_eq _) rfl es_32 (ApiType.cells_eq _) rfl ⟨rfl, rfl⟩) (Ev.cs FX_ok 2 rfl ?_)
      obtain ⟨x7, h19, hf⟩ := bind1_inv hf
      refine Ev.cons rfl rfl rfl (AO.call rfl _ rfl rfl pf_73 (c_r11_is _ _ h19 ⟨rfl, rfl⟩)) (Ev.nil ?_)
      show AR _ _ _ _ _ _ _ _
      refine AR.step_none rfl rfl (AO.store_box (i := 0) rfl rfl rfl ti_34 rfl rfl rfl rfl rfl (cs 1 rfl (AR.nil [4, 5] rfl (AW.ret ?_))))
      cases hf
      exact ⟨rfl, _, ⟨_, _, rfl, ⟨_, _, 0, _, _, rfl, rfl, ti_34, rfl⟩, _, _, rfl, rfl, rfl⟩, [], List.nil_sublist _, h⟩
     ·
      replace hf := ite_F h16 hf
      refine AW.skip (AW.seq (AW.draw 7 mixed (by kernel_rfl) rfl ?_))
      refine Ev.cs FX_ok 1 rfl ?_
      obtain ⟨x8, h20, hf⟩ := bind1_inv hf
      refine Ev.cons rfl rfl rfl (AO.call rfl _ rfl rfl pf_72 (c_r11_plain _ h20 ⟨rfl, rfl⟩)) (Ev.cs FX_ok 1 rfl ?_)
      obtain ⟨e10, h21, hf⟩ := bind1_inv hf
      refine Ev.cons rfl rfl rfl (AO.idx_list h21 rfl rfl (ApiType.cellsL_eq _) rfl es_32 (ApiType.cells_eq _) rfl ⟨rfl, rfl⟩) (Ev.cs FX_ok 2 rfl ?_)
      obtain ⟨x9, h22, hf⟩ := bind1_inv hf
      refine Ev.cons rfl rfl rfl (AO.call rfl _ rfl rfl pf_73 (c_r11_is _ _ h22 ⟨rfl, rfl⟩)) (Ev.nil ?_)
      show AR _ _ _ _ _ _ _ _
      refine AR.step_none rfl rfl (AO.store_box (i := 0) rfl rfl rfl ti_34 rfl rfl rfl rfl rfl (cs 1 rfl (AR.nil [4, 5] rfl (AW.ret ?_))))
      cases hf
      exact ⟨rfl, _, ⟨_, _, rfl, ⟨_, _, 0, _, _, rfl, rfl, ti_34, rfl⟩, _, _, rfl, rfl, rfl⟩, [], List.nil_sublist _, h⟩
    ·
     replace hf := ite_F h15 hf
     refine AW.sr (cs 2 rfl (AR.nil [1, 2, 4, 10, 62] rfl (AW.cond rfl (fun h23 => ?_) (fun h23 => ?_))))
     ·
      replace hf := ite_T h23 hf
      refine AW.seq (AW.draw 11 mixed (by kernel_rfl) rfl ?_)
      refine Ev.cs FX_ok 3 rfl ?_
      obtain ⟨e11, h24, hf⟩ := bind1_inv hf
      refine Ev.cons rfl rfl rfl (AO.idx_list h24 rfl rfl (ApiType.cellsL_eq _) rfl es_32 (ApiType.cells_eq _) rfl ⟨rfl, rfl⟩) (Ev.cs FX_ok 2 rfl ?_)
      obtain ⟨e12, h25, hf⟩ := bind1_inv hf
      refine Ev.cons rfl rfl rfl (AO.idx_list h25 rfl rfl (ApiType.cellsL_eq _) rfl es_32 (ApiType.cells_eq _) rfl ⟨rfl, rfl⟩) (Ev.cs FX_ok 1 rfl ?_)
      replace hf := (bind2_ret _).trans hf
      obtain ⟨x10, x11, h26, hf⟩ := bind2_inv hf
      refine Ev.cons rfl rfl rfl (AO.call rfl _ rfl rfl pf_74 (c_r11_binary _ _ _ h26 ⟨rfl, rfl⟩)) (Ev.cs FX_ok 2 rfl (Ev.nil ?_))
      show AR _ _ _ _ _ _ _ _
      refine AR.step_none rfl rfl (AO.store_box (i := 0) rfl rfl rfl ti_34 rfl rfl rfl rfl rfl (cs 1 rfl (AR.nil [4, 5] rfl (AW.ret ?_))))
      cases hf
      exact ⟨rfl, _, ⟨_, _, rfl, ⟨_, _, 0, _, _, rfl, rfl, ti_34, rfl⟩, _, _, rfl, rfl, rfl⟩, [], List.nil_sublist _, h⟩
     ·
      replace hf := ite_F h23 hf
      refine AW.sr (cs 2 rfl (AR.nil [1, 2, 4, 75] rfl (AW.cond rfl (fun h27 => ?_) (fun h27 => ?_))))
      ·
       replace hf := ite_T h27 hf
       refine AW.seq (AW.draw 11 mixed (by kernel_rfl) rfl ?_)
       refine Ev.cs FX_ok 1 rfl ?_
       obtain ⟨e13, h28, hf⟩ := bind1_inv hf
       refine Ev.cons rfl rfl rfl (AO.idx_list h28 rfl rfl (ApiType.cellsL_eq _) rfl es_32 (ApiType.cells_eq _) rfl ⟨rfl, rfl⟩) (Ev.cs FX_ok 2 rfl ?_)
       obtain ⟨e14, h29, hf⟩ := bind1_inv hf
       refine Ev.cons rfl rfl rfl (AO.idx_list h29 rfl rfl (ApiType.cellsL_eq _) rfl es_32 (ApiType.cells_eq _) rfl ⟨rfl, rfl⟩) (Ev.cs FX_ok 1 rfl ?_)
       obtain ⟨x12, h30, hf⟩ := bind1_inv hf
       refine Ev.cons rfl rfl rfl (AO.call rfl _ rfl rfl pf_75 (c_r08_Join _ _ h30 ⟨rfl, rfl⟩)) (Ev.cs FX_ok 1 rfl ?_)
       obtain ⟨e15, h31, hf⟩ := bind1_inv hf
       refine Ev.cons rfl rfl rfl (AO.idx_list h31 rfl rfl (ApiType.cellsL_eq _) rfl es_32 (ApiType.cells_eq _) rfl ⟨rfl, rfl⟩) (Ev.cs FX_ok 1 rfl ?_)
       obtain ⟨x13, h32, hf⟩ := bind1_inv hf
       refine Ev.cons rfl rfl rfl (AO.call rfl _ rfl rfl pf_73 (c_r11_is _ _ h32 ⟨rfl, rfl⟩)) (Ev.nil ?_)
       show AR _ _ _ _ _ _ _ _
       refine AR.step_none rfl rfl (AO.store_box (i := 0) rfl rfl rfl ti_34 rfl rfl rfl rfl rfl (cs 1 rfl (AR.nil [4, 5] rfl (AW.ret ?_))))
       cases hf
       exact ⟨rfl, _, ⟨_, _, rfl, ⟨_, _, 0, _, _, rfl, rfl, ti_34, rfl⟩, _, _, rfl, rfl, rfl⟩, [], List.nil_sublist _, h⟩
      ·
       replace hf := ite_F h27 hf
       refine AW.skip (AW.sr ?_)
       obtain ⟨x14, h33, hf⟩ := bind1_inv hf
       refine AR.step rfl rfl rfl (AO.call rfl _ rfl rfl pf_72 (c_r11_plain _ h33 (AR.step rfl rfl rfl (AO.alloc_own rfl zp_34 (fun b7 => (AR.step_none rfl rfl (AO.store_box (i := 0) rfl rfl rfl ti_34 rfl rfl rfl rfl rfl (AR.nil [1, 2, 4, 7] rfl ?_))))))))
       refine AW.seq (AW.sr (cs 1 rfl (AR.nil [1, 2, 4, 7, 8] rfl ?_)))
       refine AW.block (AW.settle [1, 2, 4, 7, 8] rfl ?_)
       refine AW.loopF2 (fun i1 t1 => [(1, .list (ApiType.cellsL l1)), (2, .ref [.int .i64 e1.kind, .str e1.name, .int .i64 e1.value.kind, .bool e1.value.bool_, .int .i64 e1.value.int_, .str e1.value.str_, .list (ApiValue.cellsL e1.value.list_), .list (List.map strC e1.value.keys), .list (ApiExpr.cellsL e1.args), .list (List.map strC e1.keys)]), (4, .val (.pointer (some ⟨b4, 0, none⟩))), (7, .val (.pointer (some ⟨b7, 0, none⟩))), (8, .int .i64 i1)]) (fun i1 t1 => [.box b7 [.int .i64 t1.kind, .list (ApiType.cellsL t1.elem)], .box b4 [.int .i64 0, .own (.slice none 0 0) []]]) (fun kk1 i1 t1 => r11_node_l1 e1 l1 kk1 i1 t1 = some (r0, r1)) BIG 0 x14 rfl rfl hf (fun _ _ hz => none_no hz) ?_
       intro kk1 i1 t1 hf
       rw [r11_node_l1] at hf
       refine AW.seq (AW.sr (cs 2 rfl (AR.step rfl rfl rfl (AO.len_list (l := l1) rfl rfl rfl rfl es_32 rfl (ApiType.cellsL_eq _) ?_))))
       refine cs 1 rfl (AR.nil [1, 2, 4, 7, 8, 92] rfl (AW.cond rfl (fun h34 => ?_) (fun h34 => ?_)))
       ·
        replace hf := ite_T h34 hf
        refine AW.skip (AW.seq (AW.block (AW.draw 6 mixed (by kernel_rfl) rfl ?_)))
        refine Ev.cons rfl rfl rfl (AO.load_box (i := 0) rfl rfl rfl ti_34 rfl rfl ⟨rfl, rfl⟩) (Ev.cs FX_ok 2 rfl ?_)
        obtain ⟨e16, h35, hf⟩ := bind1_inv hf
        refine Ev.cons rfl rfl rfl (AO.idx_list h35 rfl rfl (ApiType.cellsL_eq _) rfl es_32 (ApiType.cells_eq _) rfl ⟨rfl, rfl⟩) (Ev.cs FX_ok 1 rfl ?_)
        obtain ⟨x15, h36, hf⟩ := bind1_inv hf
        refine Ev.cons rfl rfl rfl (AO.call rfl _ rfl rfl pf_75 (c_r08_Join _ _ h36 ⟨rfl, rfl⟩)) (Ev.nil ?_)
        show AR _ _ _ _ _ _ _ _
        refine AR.step_none rfl rfl (AO.store_box (i := 0) rfl rfl rfl ti_34 rfl rfl rfl rfl rfl (AR.nil [1, 2, 4, 7, 8] rfl (AW.region (cs 3 rfl ?_))))
        refine AR.nil [1, 2, 4, 7, 8] rfl ?_
        exact ⟨(w64 (i1 + 1)), x15, rfl, rfl, rfl, hf⟩
       ·
        replace hf := ite_F h34 hf
        refine AW.exit (AW.seq (AW.sr (cs 3 rfl ?_)))
        refine AR.nil [4, 7, 103] rfl (AW.cond rfl (fun h37 => ?_) (fun h37 => ?_))
        ·
         replace hf := ite_T h37 hf
         refine AW.sr (AR.step rfl rfl rfl (AO.load_box (i := 0) rfl rfl rfl ti_34 rfl rfl ?_))
         obtain ⟨x16, h38, hf⟩ := bind1_inv hf
         refine AR.step rfl rfl rfl (AO.call rfl _ rfl rfl pf_76 (c_r08_With _ _ h38 (AR.step_none rfl rfl (AO.store_box (i := 1) rfl rfl rfl ti_34 rfl rfl rfl rfl rfl (cs 1 rfl (AR.nil [4, 5] rfl ?_))))))
         refine AW.ret ?_
         cases hf
         exact ⟨rfl, _, ⟨_, _, rfl, ⟨_, _, 1, _, _, rfl, rfl, ti_34, rfl⟩, _, _, rfl, rfl, rfl⟩, [], List.nil_sublist _, h⟩
        ·
         replace hf := ite_F h37 hf
         refine AW.skip (AW.sr (AR.step rfl rfl rfl (AO.load_box (i := 0) rfl rfl rfl ti_34 rfl rfl ?_)))
         obtain ⟨x17, h39, hf⟩ := bind1_inv hf
         refine AR.step rfl rfl rfl (AO.call rfl _ rfl rfl pf_76 (c_r08_With _ _ h39 (AR.step_none rfl rfl (AO.store_box (i := 1) rfl rfl rfl ti_34 rfl rfl rfl rfl rfl (cs 1 rfl (AR.nil [4, 5] rfl ?_))))))
         refine AW.ret ?_
         cases hf
         exact ⟨rfl, _, ⟨_, _, rfl, ⟨_, _, 1, _, _, rfl, rfl, ti_34, rfl⟩, _, _, rfl, rfl, rfl⟩, [], List.nil_sublist _, h⟩

theorem w_r11_expr (go_r11_expr : ApiExpr → List ApiDecl → Option (ApiType × Int)) (go_r11_exprH : ∀ (ue1 : ApiExpr) (uenv1 : List ApiDecl) {urr1x0 : ApiType} {urr1x1 : Int}, go_r11_expr ue1 uenv1 = some (urr1x0, urr1x1) → ∀ {τ : List Res} {Q : AOut → List Res → Prop} (h : Q (.ret (.tuple [.agg [.int .i64 urr1x0.kind, .list (ApiType.cellsL urr1x0.elem)], .int .i64 urr1x1])) τ), AC Tryz.prog 21 [.agg [.int .i64 ue1.kind, .str ue1.name, .int .i64 ue1.value.kind, .bool ue1.value.bool_, .int .i64 ue1.value.int_, .str ue1.value.str_, .list (ApiValue.cellsL ue1.value.list_), .list (List.map strC ue1.value.keys), .list (ApiExpr.cellsL ue1.args), .list (List.map strC ue1.keys)], .list (List.map ApiDecl.cells uenv1)] τ Q) (e1 : ApiExpr) (env1 : List ApiDecl) {r0 : ApiType} {r1 : Int} (hf : r11_expr_b go_r11_expr e1 env1 = some (r0, r1)) {τ : List Res} {Q : AOut → List Res → Prop} (h : Q (.ret (.tuple [.agg [.int .i64 r0.kind, .list (ApiType.cellsL r0.elem)], .int .i64 r1])) τ) : AC Tryz.prog 21 [.agg [.int .i64 e1.kind, .str e1.name, .int .i64 e1.value.kind, .bool e1.value.bool_, .int .i64 e1.value.int_, .str e1.value.str_, .list (ApiValue.cellsL e1.value.list_), .list (List.map strC e1.value.keys), .list (ApiExpr.cellsL e1.args), .list (List.map strC e1.keys)], .list (List.map ApiDecl.cells env1)] τ Q := by
 unfold r11_expr_b at hf
 refine AC.none (AC.of_body 87 [.cell 4 34, .tmp 5] [0, 1] Tryz.func21 rfl rfl rfl rfl rfl (AW.sr (AR.step rfl rfl rfl (AO.box_ref rfl rfl rfl ?_))))
 refine AR.step rfl rfl rfl (AO.alloc_own rfl zp_34 (fun b4 => (cs 1 rfl (AR.nil [1, 2, 4] rfl (AW.seq ?_)))))
 refine AW.sr (cs 4 rfl (AR.or 4 15 19 [1, 2, 4] (x := (e1.kind == 2)) rfl rfl (fun h1 => ?_) (fun h1 => ?_) ?_))
 ·
  refine AR.is 15 h1 rfl (cs 4 rfl (AR.nil [19, 1, 2, 4] rfl ?_))
  exact ⟨rfl, rfl, rfl, rfl⟩
 ·
  refine AR.is 15 h1 rfl (cs 4 rfl (AR.nil [19, 1, 2, 4] rfl ?_))
  exact ⟨rfl, rfl, rfl, rfl⟩
 refine AR.nil [1, 2, 4, 19] rfl (AW.cond rfl (fun h2 => ?_) (fun h2 => ?_))
 ·
  replace hf := ite_T h2 hf
  refine AW.sr (cs 2 rfl ?_)
  replace hf := (bind2_ret _).trans hf
  obtain ⟨x1, x2, h3, hf⟩ := bind2_inv hf
  refine AR.step rfl rfl rfl (AO.call rfl _ rfl rfl pf_45 (c_r11_leaf _ _ h3 (cs 2 rfl (AR.step_none rfl rfl (AO.store_box (i := 0) rfl rfl rfl ti_34 rfl rfl rfl rfl rfl (cs 1 rfl ?_))))))
  refine AR.nil [4, 5] rfl (AW.ret ?_)
  cases hf
  exact ⟨rfl, _, ⟨_, _, rfl, ⟨_, _, 0, _, _, rfl, rfl, ti_34, rfl⟩, _, _, rfl, rfl, rfl⟩, [], List.nil_sublist _, h⟩
 ·
  replace hf := ite_F h2 hf
  refine AW.skip (AW.seq (AW.sr (cs 4 rfl ?_)))
  obtain ⟨b1, h5, hf⟩ := bind1_inv hf
  refine AR.join1 5 28 33 true [1, 2, 4] b1 rfl rfl (fun h4 => ?_) (fun h4 => ?_) ?_
  ·
   replace h5 := ite_T h4 h5
   refine AR.is 28 h4 rfl (cs 2 rfl ?_)
   obtain ⟨x3, h6, h5⟩ := bind1_inv h5
   refine AR.go rfl rfl rfl rfl rfl rfl (AO.call rfl _ rfl rfl pf_46 (c_r11_Args _ h6 (cs 1 rfl ?_)))
   obtain rfl := Option.some.inj h5
   refine cs 1 rfl (AR.nil [33, 1, 2, 4] rfl ?_)
   exact ⟨rfl, rfl, rfl, rfl⟩
  ·
   replace h5 := ite_F h4 h5
   refine AR.is 28 h4 rfl ?_
   obtain rfl := Option.some.inj h5
   refine cs 5 rfl (AR.nil [33, 1, 2, 4] rfl ?_)
   exact ⟨rfl, rfl, rfl, rfl⟩
  refine AR.nil [1, 2, 4, 33] rfl (AW.cond rfl (fun h7 => ?_) (fun h7 => ?_))
  ·
   replace hf := ite_T h7 hf
   refine AW.sr (AR.step rfl rfl rfl (AO.build rfl zp_34 spl_34 rfl (AR.step_none rfl rfl (AO.store_box (i := 0) rfl rfl rfl ti_34 rfl rfl rfl rfl rfl (cs 1 rfl ?_)))))
   refine AR.nil [4, 5] rfl (AW.ret ?_)
   cases hf
   exact ⟨rfl, _, ⟨_, _, rfl, ⟨_, _, 0, _, _, rfl, rfl, ti_34, rfl⟩, _, _, rfl, rfl, rfl⟩, [], List.nil_sublist _, h⟩
  ·
   replace hf := ite_F h7 hf
   refine AW.skip (AW.seq (AW.seq (AW.draw 12 mixed (by kernel_rfl) rfl ?_)))
   refine Ev.cs FX_ok 4 rfl ?_
   obtain ⟨b2, h9, hf⟩ := bind1_inv hf
   refine Ev.join1 hKA 8 38 46 true [1, 2, 4] (.bool b2) rfl rfl (fun h8 => ?_) (fun h8 => ?_) ?_
   ·
    replace h9 := ite_T h8 h9
    refine Ev.is hKL 38 h8 rfl (Ev.cs FX_ok 2 rfl ?_)
    obtain ⟨x4, h10, h9⟩ := bind1_inv h9
    refine Ev.run rfl rfl rfl rfl rfl rfl rfl (AO.call rfl _ rfl rfl pf_46 (c_r11_Args _ h10 ⟨rfl, rfl⟩)) (Ev.cs FX_ok 2 rfl (Ev.run rfl rfl rfl rfl rfl rfl rfl (AO.len_list (l := e1.args) rfl rfl rfl rfl es_26 rfl (ApiExpr.cellsL_eq _) ⟨rfl, rfl⟩) (Ev.cs FX_ok 1 rfl ?_)))
    obtain rfl := Option.some.inj h9
    refine Ev.cs FX_ok 1 rfl ?_
    exact Ev.nil (Less.settle (ps := [46, 1, 2, 4]) rfl)
   ·
    replace h9 := ite_F h8 h9
    refine Ev.is hKL 38 h8 rfl ?_
    obtain rfl := Option.some.inj h9
    refine Ev.cs FX_ok 8 rfl ?_
    exact Ev.nil (Less.settle (ps := [46, 1, 2, 4]) rfl)
   refine Ev.nil ?_
   show AR _ _ _ _ _ _ _ _
   refine AR.nil [1, 2, 4, 46] rfl (AW.cond rfl (fun h11 => ?_) (fun h11 => ?_))
   ·
    replace hf := ite_T h11 hf
    refine AW.sr (AR.step rfl rfl rfl (AO.build rfl zp_34 spl_34 rfl (AR.step_none rfl rfl (AO.store_box (i := 0) rfl rfl rfl ti_34 rfl rfl rfl rfl rfl (cs 1 rfl ?_)))))
    refine AR.nil [4, 5] rfl (AW.ret ?_)
    cases hf
    exact ⟨rfl, _, ⟨_, _, rfl, ⟨_, _, 0, _, _, rfl, rfl, ti_34, rfl⟩, _, _, rfl, rfl, rfl⟩, [], List.nil_sublist _, h⟩
   ·
    replace hf := ite_F h11 hf
    refine AW.skip (AW.sr (cs 1 rfl (AR.nil [1, 2, 4, 6] rfl ?_)))
    refine AW.seq (AW.sr (cs 1 rfl (AR.nil [1, 2, 4, 6, 7] rfl ?_)))
    refine AW.block (AW.row 2 34 (AW.settle [1, 2, 4, 6, 7] rfl ?_))
    refine AW.loopF3 (fun l1 v1 i1 => [(1, .list (List.map ApiDecl.cells env1)), (2, .ref [.int .i64 e1.kind, .str e1.name, .int .i64 e1.value.kind, .bool e1.value.bool_, .int .i64 e1.value.int_, .str e1.value.str_, .list (ApiValue.cellsL e1.value.list_), .list (List.map strC e1.value.keys), .list (ApiExpr.cellsL e1.args), .list (List.map strC e1.keys)]), (4, .val (.pointer (some ⟨b4, 0, none⟩))), (6, .own v1 (ApiType.cellsL l1)), (7, .int .i64 i1)]) (fun l1 v1 i1 => [.row v1 (ApiType.cellsL l1).length 2 34, .box b4 [.int .i64 0, .own (.slice none 0 0) []]]) (fun kk1 l1 v1 i1 => r11_expr_l1 go_r11_expr e1 env1 kk1 l1 i1 = some (r0, r1)) BIG [] (.slice none 0 0) 0 rfl rfl hf (fun _ _ _ hz => none_no hz) ?_
    intro kk1 l1 v1 i1 hf
    rw [r11_expr_l1] at hf
    refine AW.seq (AW.sr (cs 3 rfl (AR.step rfl rfl rfl (AO.len_list (l := e1.args) rfl rfl rfl rfl es_26 rfl (ApiExpr.cellsL_eq _) ?_))))
    refine cs 1 rfl (AR.nil [1, 2, 4, 6, 7, 52] rfl (AW.cond rfl (fun h12 => ?_) (fun h12 => ?_)))
    ·
     replace hf := ite_T h12 hf
     refine AW.skip (AW.seq (AW.block (AW.sr ?_)))
     refine cs 3 rfl ?_
     obtain ⟨e2, h13, hf⟩ := bind1_inv hf
     refine AR.step rfl rfl rfl (AO.idx_list h13 rfl rfl (ApiExpr.cellsL_eq _) rfl es_26 (ApiExpr.cells_eq _) rfl (cs 2 rfl ?_))
     obtain ⟨x5, f1, h14, hf⟩ := bind2_inv hf
     refine AR.step rfl rfl rfl (AO.call rfl _ rfl rfl pf_21 (go_r11_exprH _ _ h14 (cs 3 rfl (AR.step rfl rfl rfl (AO.alloc_own rfl zp_34 (fun b8 => (AR.step_none rfl rfl (AO.store_box (i := 0) rfl rfl rfl ti_34 rfl rfl rfl rfl rfl ?_))))))))
     refine cs 1 rfl (AR.nil [1, 2, 4, 6, 7, 8, 9] rfl (AW.seq (AW.sr ?_)))
     refine cs 2 rfl (AR.nil [1, 2, 4, 6, 7, 8, 9, 66] rfl (AW.cond rfl (fun h15 => ?_) (fun h15 => ?_)))
     ·
      replace hf := ite_T h15 hf
      refine AW.sr (AR.step rfl rfl rfl (AO.build rfl zp_34 spl_34 rfl (cs 1 rfl (AR.step_none rfl rfl (AO.store_box (i := 2) rfl rfl rfl ti_34 rfl rfl rfl rfl rfl ?_)))))
      refine cs 1 rfl (AR.nil [4, 5] rfl (AW.ret ?_))
      cases hf
      exact ⟨rfl, _, ⟨_, _, rfl, ⟨_, _, 2, _, _, rfl, rfl, ti_34, rfl⟩, _, _, rfl, rfl, rfl⟩, [], List.nil_sublist _, h⟩
     ·
      replace hf := ite_F h15 hf
      refine AW.skip (AW.region (cs 1 rfl (AR.step rfl rfl rfl (AO.load_box (i := 0) rfl rfl rfl ti_34 rfl rfl ?_))))
      refine AR.step rfl rfl rfl (AO.buildSliceF (ApiType.cellsL [x5]) rfl sf_32 rfl rfl rfl (by first | rfl | simp only [List.map, ApiType.cells_eq, ApiType.cellsL]) ?_)
      obtain ⟨l2, h16, hf⟩ := bind1_inv hf
      refine AR.step rfl rfl rfl (AO.app_own (i := 1) (l := l1) (m := [x5]) h16 rfl rfl rfl rfl rfl rfl rfl sf_32 es_32 (ApiType.cellsL_eq _) (ApiType.cellsL_eq _) (ApiType.cellsL_eq _).symm (ApiType.cells_len) (ApiType.cells_one) (by decide) (fun v2 s1 hs1 => ?_))
      cases hs1
      refine cs 1 rfl (AR.nil [1, 2, 4, 6, 7] rfl (AW.region (cs 3 rfl ?_)))
      refine AR.drop1 (AR.nil [1, 2, 4, 6, 7] rfl ?_)
      exact ⟨l2, v2, (w64 (i1 + 1)), rfl, rfl, rfl, hf⟩
    ·
     replace hf := ite_F h12 hf
     refine AW.exit (AW.sr (cs 2 rfl ?_))
     obtain ⟨x6, ok1, h17, hf⟩ := bind2_inv hf
     refine AR.step rfl rfl rfl (AO.call rfl _ rfl rfl pf_47 (c_r11_node _ _ h17 (cs 3 rfl (AR.step rfl rfl rfl (AO.alloc_own rfl zp_34 (fun b10 => (AR.step_none rfl rfl (AO.store_box (i := 0) rfl rfl rfl ti_34 rfl rfl rfl rfl rfl ?_))))))))
     refine cs 1 rfl (AR.nil [4, 10, 11] rfl (AW.seq (AW.sr ?_)))
     refine cs 2 rfl (AR.nil [4, 10, 80] rfl (AW.cond rfl (fun h18 => ?_) (fun h18 => ?_)))
     ·
      replace hf := ite_T h18 hf
      refine AW.sr (AR.step rfl rfl rfl (AO.build rfl zp_34 spl_34 rfl (AR.step_none rfl rfl (AO.store_box (i := 2) rfl rfl rfl ti_34 rfl rfl rfl rfl rfl (cs 1 rfl ?_)))))
      refine AR.nil [4, 5] rfl (AW.ret ?_)
      cases hf
      exact ⟨rfl, _, ⟨_, _, rfl, ⟨_, _, 2, _, _, rfl, rfl, ti_34, rfl⟩, _, _, rfl, rfl, rfl⟩, [], List.nil_sublist _, h⟩
     ·
      replace hf := ite_F h18 hf
      refine AW.skip (AW.seq (AW.sr (AR.step rfl rfl rfl (AO.load_box (i := 0) rfl rfl rfl ti_34 rfl rfl ?_))))
      obtain ⟨x7, h19, hf⟩ := bind1_inv hf
      refine AR.step rfl rfl rfl (AO.call rfl _ rfl rfl pf_43 (c_r08_Valid _ h19 (cs 1 rfl (AR.nil [4, 10, 84] rfl (AW.cond rfl (fun h20 => ?_) (fun h20 => ?_))))))
      ·
       replace hf := ite_T h20 hf
       refine AW.sr (AR.step rfl rfl rfl (AO.build rfl zp_34 spl_34 rfl (AR.step_none rfl rfl (AO.store_box (i := 2) rfl rfl rfl ti_34 rfl rfl rfl rfl rfl (cs 1 rfl ?_)))))
       refine AR.nil [4, 5] rfl (AW.ret ?_)
       cases hf
       exact ⟨rfl, _, ⟨_, _, rfl, ⟨_, _, 2, _, _, rfl, rfl, ti_34, rfl⟩, _, _, rfl, rfl, rfl⟩, [], List.nil_sublist _, h⟩
      ·
       replace hf := ite_F h20 hf
       refine AW.skip (AW.sr (AR.step rfl rfl rfl (AO.load_box (i := 0) rfl rfl rfl ti_34 rfl rfl (AR.step_none rfl rfl (AO.store_box (i := 2) rfl rfl rfl ti_34 rfl rfl rfl rfl rfl ?_)))))
       refine cs 1 rfl (AR.nil [4, 5] rfl (AW.ret ?_))
       cases hf
       exact ⟨rfl, _, ⟨_, _, rfl, ⟨_, _, 2, _, _, rfl, rfl, ti_34, rfl⟩, _, _, rfl, rfl, rfl⟩, [], List.nil_sublist _, h⟩

theorem n_r11_expr : ∀ k : Nat, (∀ (ue1 : ApiExpr) (uenv1 : List ApiDecl) {urr1x0 : ApiType} {urr1x1 : Int}, r11_expr_n k ue1 uenv1 = some (urr1x0, urr1x1) → ∀ {τ : List Res} {Q : AOut → List Res → Prop} (h : Q (.ret (.tuple [.agg [.int .i64 urr1x0.kind, .list (ApiType.cellsL urr1x0.elem)], .int .i64 urr1x1])) τ), AC Tryz.prog 21 [.agg [.int .i64 ue1.kind, .str ue1.name, .int .i64 ue1.value.kind, .bool ue1.value.bool_, .int .i64 ue1.value.int_, .str ue1.value.str_, .list (ApiValue.cellsL ue1.value.list_), .list (List.map strC ue1.value.keys), .list (ApiExpr.cellsL ue1.args), .list (List.map strC ue1.keys)], .list (List.map ApiDecl.cells uenv1)] τ Q) := by
 intro k
 induction k with
 | zero => exact fun _ _ _ _ hz => by first | cases hz | (unfold r11_expr_n at hz; cases hz)
 | succ k ih => exact fun ue1 uenv1 urr1x0 urr1x1 hz τ Q hq => w_r11_expr (r11_expr_n k) ih ue1 uenv1 hz hq
theorem c_r11_expr (ue1 : ApiExpr) (uenv1 : List ApiDecl) {urr1x0 : ApiType} {urr1x1 : Int} (hf : r11_expr ue1 uenv1 = some (urr1x0, urr1x1)) {τ : List Res} {Q : AOut → List Res → Prop} (h : Q (.ret (.tuple [.agg [.int .i64 urr1x0.kind, .list (ApiType.cellsL urr1x0.elem)], .int .i64 urr1x1])) τ) : AC Tryz.prog 21 [.agg [.int .i64 ue1.kind, .str ue1.name, .int .i64 ue1.value.kind, .bool ue1.value.bool_, .int .i64 ue1.value.int_, .str ue1.value.str_, .list (ApiValue.cellsL ue1.value.list_), .list (List.map strC ue1.value.keys), .list (ApiExpr.cellsL ue1.args), .list (List.map strC ue1.keys)], .list (List.map ApiDecl.cells uenv1)] τ Q :=
 ((n_r11_expr BIG)) ue1 uenv1 hf h

theorem c_r11_Expr  (e1 : ApiExpr) (env1 : List ApiDecl) {r0 : ApiType} {r1 : Int} (hf : r11_Expr e1 env1 = some (r0, r1)) {τ : List Res} {Q : AOut → List Res → Prop} (h : Q (.ret (.tuple [.agg [.int .i64 r0.kind, .list (ApiType.cellsL r0.elem)], .int .i64 r1])) τ) : AC Tryz.prog 8 [.agg [.int .i64 e1.kind, .str e1.name, .int .i64 e1.value.kind, .bool e1.value.bool_, .int .i64 e1.value.int_, .str e1.value.str_, .list (ApiValue.cellsL e1.value.list_), .list (List.map strC e1.value.keys), .list (ApiExpr.cellsL e1.args), .list (List.map strC e1.keys)], .list (List.map ApiDecl.cells env1)] τ Q := by
 unfold r11_Expr at hf
 refine AC.none (AC.of_body 25 [.cell 4 34, .tmp 5] [0, 1] Tryz.func8 rfl rfl rfl rfl rfl (AW.sr (AR.step rfl rfl rfl (AO.box_ref rfl rfl rfl ?_))))
 refine AR.step rfl rfl rfl (AO.alloc_own rfl zp_34 (fun b4 => (cs 1 rfl (AR.nil [1, 2, 4] rfl (AW.seq ?_)))))
 refine AW.sr (cs 1 rfl ?_)
 obtain ⟨f1, h1, hf⟩ := bind1_inv hf
 refine AR.step rfl rfl rfl (AO.call rfl _ rfl rfl pf_19 (c_r11_Env _ h1 (cs 1 rfl (AR.nil [1, 2, 4, 6] rfl (AW.sr ?_)))))
 refine cs 2 rfl (AR.nil [1, 2, 4, 6, 11] rfl (AW.cond rfl (fun h2 => ?_) (fun h2 => ?_)))
 ·
  replace hf := ite_T h2 hf
  refine AW.sr (AR.step rfl rfl rfl (AO.build rfl zp_34 spl_34 rfl (cs 1 rfl (AR.step_none rfl rfl (AO.store_box (i := 0) rfl rfl rfl ti_34 rfl rfl rfl rfl rfl ?_)))))
  refine cs 1 rfl (AR.nil [4, 5] rfl (AW.ret ?_))
  cases hf
  exact ⟨rfl, _, ⟨_, _, rfl, ⟨_, _, 0, _, _, rfl, rfl, ti_34, rfl⟩, _, _, rfl, rfl, rfl⟩, [], List.nil_sublist _, h⟩
 ·
  replace hf := ite_F h2 hf
  refine AW.skip (AW.seq (AW.sr (cs 1 rfl ?_)))
  obtain ⟨f2, h3, hf⟩ := bind1_inv hf
  refine AR.step rfl rfl rfl (AO.call rfl _ rfl rfl pf_20 (c_r10_Valid _ h3 (cs 1 rfl (AR.nil [1, 2, 4, 7] rfl (AW.sr ?_)))))
  refine cs 2 rfl (AR.nil [1, 2, 4, 7, 17] rfl (AW.cond rfl (fun h4 => ?_) (fun h4 => ?_)))
  ·
   replace hf := ite_T h4 hf
   refine AW.sr (AR.step rfl rfl rfl (AO.build rfl zp_34 spl_34 rfl (cs 1 rfl (AR.step_none rfl rfl (AO.store_box (i := 0) rfl rfl rfl ti_34 rfl rfl rfl rfl rfl ?_)))))
   refine cs 1 rfl (AR.nil [4, 5] rfl (AW.ret ?_))
   cases hf
   exact ⟨rfl, _, ⟨_, _, rfl, ⟨_, _, 0, _, _, rfl, rfl, ti_34, rfl⟩, _, _, rfl, rfl, rfl⟩, [], List.nil_sublist _, h⟩
  ·
   replace hf := ite_F h4 hf
   refine AW.skip (AW.sr (cs 2 rfl ?_))
   replace hf := (bind2_ret _).trans hf
   obtain ⟨x1, x2, h5, hf⟩ := bind2_inv hf
   refine AR.step rfl rfl rfl (AO.call rfl _ rfl rfl pf_21 (c_r11_expr _ _ h5 (cs 2 rfl (AR.step_none rfl rfl (AO.store_box (i := 0) rfl rfl rfl ti_34 rfl rfl rfl rfl rfl (cs 1 rfl ?_))))))
   refine AR.nil [4, 5] rfl (AW.ret ?_)
   cases hf
   exact ⟨rfl, _, ⟨_, _, rfl, ⟨_, _, 0, _, _, rfl, rfl, ti_34, rfl⟩, _, _, rfl, rfl, rfl⟩, [], List.nil_sublist _, h⟩

theorem w_r08_Same (go_r08_Same : ApiType → ApiType → Option Bool) (go_r08_SameH : ∀ (ua1 : ApiType) (ub1 : ApiType) {urr1x0 : Bool}, go_r08_Same ua1 ub1 = some urr1x0 → ∀ {τ : List Res} {Q : AOut → List Res → Prop} (h : Q (.ret (.bool urr1x0)) τ), AC Tryz.prog 9 [.agg [.int .i64 ua1.kind, .list (ApiType.cellsL ua1.elem)], .agg [.int .i64 ub1.kind, .list (ApiType.cellsL ub1.elem)]] τ Q) (a1 : ApiType) (b1 : ApiType) {r0 : Bool} (hf : r08_Same_b go_r08_Same a1 b1 = some r0) {τ : List Res} {Q : AOut → List Res → Prop} (h : Q (.ret (.bool r0)) τ) : AC Tryz.prog 9 [.agg [.int .i64 a1.kind, .list (ApiType.cellsL a1.elem)], .agg [.int .i64 b1.kind, .list (ApiType.cellsL b1.elem)]] τ Q := by
 unfold r08_Same_b at hf
 refine AC.none (AC.of_body 39 [.tmp 4] [0, 1] Tryz.func9 rfl rfl rfl rfl rfl (AW.sr (AR.step rfl rfl rfl (AO.box_ref rfl rfl rfl ?_))))
 refine AR.step rfl rfl rfl (AO.box_ref rfl rfl rfl (cs 1 rfl (AR.nil [2, 3] rfl (AW.seq ?_))))
 refine AW.sr (cs 6 rfl (AR.or 8 11 19 [2, 3] (x := ((a1.elem.length : Int) != (b1.elem.length : Int))) rfl rfl (fun h1 => ?_) (fun h1 => ?_) ?_))
 ·
  refine AR.is 11 h1 rfl (cs 2 rfl (AR.go rfl rfl rfl rfl rfl rfl (AO.len_list (l := a1.elem) rfl rfl rfl rfl es_32 rfl (ApiType.cellsL_eq _) (cs 2 rfl ?_))))
  refine AR.go rfl rfl rfl rfl rfl rfl (AO.len_list (l := b1.elem) rfl rfl rfl rfl es_32 rfl (ApiType.cellsL_eq _) (cs 2 rfl (AR.nil [19, 2, 3] rfl ?_)))
  exact ⟨rfl, rfl, rfl, rfl⟩
 ·
  refine AR.is 11 h1 rfl (cs 8 rfl (AR.nil [19, 2, 3] rfl ?_))
  exact ⟨rfl, rfl, rfl, rfl⟩
 refine AR.nil [2, 3, 19] rfl (AW.cond rfl (fun h2 => ?_) (fun h2 => ?_))
 ·
  replace hf := ite_T h2 hf
  refine AW.sr (cs 1 rfl (AR.nil [4] rfl (AW.ret ?_)))
  cases hf
  exact ⟨rfl, _, ⟨_, _, rfl, rfl, rfl⟩, [], List.nil_sublist _, h⟩
 ·
  replace hf := ite_F h2 hf
  refine AW.skip (AW.seq (AW.sr (cs 1 rfl ?_)))
  refine AR.nil [2, 3, 5] rfl (AW.block (AW.settle [2, 3, 5] rfl (AW.loopF1 (fun i1 => [(2, .ref [.int .i64 a1.kind, .list (ApiType.cellsL a1.elem)]), (3, .ref [.int .i64 b1.kind, .list (ApiType.cellsL b1.elem)]), (5, .int .i64 i1)]) (fun i1 => []) (fun kk1 i1 => r08_Same_l1 go_r08_Same a1 b1 kk1 i1 = some r0) BIG 0 rfl rfl hf (fun _ hz => none_no hz) ?_)))
  intro kk1 i1 hf
  rw [r08_Same_l1] at hf
  refine AW.seq (AW.sr (cs 3 rfl (AR.step rfl rfl rfl (AO.len_list (l := a1.elem) rfl rfl rfl rfl es_32 rfl (ApiType.cellsL_eq _) ?_))))
  refine cs 1 rfl (AR.nil [2, 3, 5, 24] rfl (AW.cond rfl (fun h3 => ?_) (fun h3 => ?_)))
  ·
   replace hf := ite_T h3 hf
   refine AW.skip (AW.seq (AW.block (AW.seq ?_)))
   refine AW.draw 12 mixed (by kernel_rfl) rfl ?_
   refine Ev.cs FX_ok 3 rfl ?_
   obtain ⟨e1, h4, hf⟩ := bind1_inv hf
   refine Ev.cons rfl rfl rfl (AO.idx_list h4 rfl rfl (ApiType.cellsL_eq _) rfl es_32 (ApiType.cells_eq _) rfl ⟨rfl, rfl⟩) (Ev.cs FX_ok 4 rfl ?_)
   obtain ⟨e2, h5, hf⟩ := bind1_inv hf
   refine Ev.cons rfl rfl rfl (AO.idx_list h5 rfl rfl (ApiType.cellsL_eq _) rfl es_32 (ApiType.cells_eq _) rfl ⟨rfl, rfl⟩) (Ev.cs FX_ok 1 rfl ?_)
   obtain ⟨x1, h6, hf⟩ := bind1_inv hf
   refine Ev.cons rfl rfl rfl (AO.call rfl _ rfl rfl pf_9 (go_r08_SameH _ _ h6 ⟨rfl, rfl⟩)) (Ev.cs FX_ok 1 rfl (Ev.nil ?_))
   show AR _ _ _ _ _ _ _ _
   refine AR.nil [2, 3, 5, 38] rfl (AW.cond rfl (fun h7 => ?_) (fun h7 => ?_))
   ·
    replace hf := ite_T h7 hf
    refine AW.sr (cs 1 rfl (AR.nil [4] rfl (AW.ret ?_)))
    cases hf
    exact ⟨rfl, _, ⟨_, _, rfl, rfl, rfl⟩, [], List.nil_sublist _, h⟩
   ·
    replace hf := ite_F h7 hf
    refine AW.skip (AW.region (cs 3 rfl (AR.nil [2, 3, 5] rfl ?_)))
    exact ⟨(w64 (i1 + 1)), rfl, rfl, rfl, hf⟩
  ·
   replace hf := ite_F h3 hf
   refine AW.exit (AW.sr (cs 1 rfl (AR.nil [4] rfl ?_)))
   refine AW.ret ?_
   cases hf
   exact ⟨rfl, _, ⟨_, _, rfl, rfl, rfl⟩, [], List.nil_sublist _, h⟩

theorem n_r08_Same : ∀ k : Nat, (∀ (ua1 : ApiType) (ub1 : ApiType) {urr1x0 : Bool}, r08_Same_n k ua1 ub1 = some urr1x0 → ∀ {τ : List Res} {Q : AOut → List Res → Prop} (h : Q (.ret (.bool urr1x0)) τ), AC Tryz.prog 9 [.agg [.int .i64 ua1.kind, .list (ApiType.cellsL ua1.elem)], .agg [.int .i64 ub1.kind, .list (ApiType.cellsL ub1.elem)]] τ Q) := by
 intro k
 induction k with
 | zero => exact fun _ _ _ hz => by first | cases hz | (unfold r08_Same_n at hz; cases hz)
 | succ k ih => exact fun ua1 ub1 urr1x0 hz τ Q hq => w_r08_Same (r08_Same_n k) ih ua1 ub1 hz hq
theorem c_r08_Same (ua1 : ApiType) (ub1 : ApiType) {urr1x0 : Bool} (hf : r08_Same ua1 ub1 = some urr1x0) {τ : List Res} {Q : AOut → List Res → Prop} (h : Q (.ret (.bool urr1x0)) τ) : AC Tryz.prog 9 [.agg [.int .i64 ua1.kind, .list (ApiType.cellsL ua1.elem)], .agg [.int .i64 ub1.kind, .list (ApiType.cellsL ub1.elem)]] τ Q :=
 ((n_r08_Same BIG)) ua1 ub1 hf h

theorem c_l11_CheckTypes  (e1 : ApiExpr) (env1 : List ApiDecl) {r0 : Bool} (hf : l11_CheckTypes e1 env1 = some r0) {τ : List Res} {Q : AOut → List Res → Prop} (h : Q (.ret (.bool r0)) τ) : AC Tryz.prog 3 [.agg [.int .i64 e1.kind, .str e1.name, .int .i64 e1.value.kind, .bool e1.value.bool_, .int .i64 e1.value.int_, .str e1.value.str_, .list (ApiValue.cellsL e1.value.list_), .list (List.map strC e1.value.keys), .list (ApiExpr.cellsL e1.args), .list (List.map strC e1.keys)], .list (List.map ApiDecl.cells env1)] τ Q := by
 unfold l11_CheckTypes at hf
 refine AC.none (AC.of_body 47 [.tmp 4] [0, 1] Tryz.func3 rfl rfl rfl rfl rfl (AW.sr (AR.step rfl rfl rfl (AO.box_ref rfl rfl rfl ?_))))
 refine cs 1 rfl (AR.nil [1, 2] rfl (AW.seq (AW.sr ?_)))
 refine cs 2 rfl (AR.step rfl rfl rfl (AO.len_list (l := env1) rfl rfl rfl rfl es_29 rfl rfl ?_))
 obtain ⟨x1, h1, hf⟩ := bind1_inv hf
 refine AR.step rfl rfl rfl (AO.call rfl _ rfl rfl pf_5 (c_l11_small _ _ h1 (cs 1 rfl (AR.nil [1, 2, 13] rfl (AW.cond rfl (fun h2 => ?_) (fun h2 => ?_))))))
 ·
  replace hf := ite_T h2 hf
  refine AW.sr ?_
  replace hf := (bind1_ret _).trans hf
  obtain ⟨x2, h3, hf⟩ := bind1_inv hf
  refine AR.step rfl rfl rfl (AO.call rfl _ rfl rfl pf_6 (c_l11_awake  h3 (cs 1 rfl (AR.nil [4] rfl (AW.ret ?_)))))
  cases hf
  exact ⟨rfl, _, ⟨_, _, rfl, rfl, rfl⟩, [], List.nil_sublist _, h⟩
 ·
  replace hf := ite_F h2 hf
  refine AW.skip (AW.sr (cs 2 rfl ?_))
  obtain ⟨x3, f1, h4, hf⟩ := bind2_inv hf
  refine AR.step rfl rfl rfl (AO.call rfl _ rfl rfl pf_7 (c_check_Expr _ _ h4 (cs 3 rfl (AR.step rfl rfl rfl (AO.alloc_own rfl zp_34 (fun b5 => (AR.step_none rfl rfl (AO.store_box (i := 0) rfl rfl rfl ti_34 rfl rfl rfl rfl rfl ?_))))))))
  refine cs 1 rfl (AR.nil [1, 2, 5, 6] rfl (AW.sr (cs 2 rfl ?_)))
  obtain ⟨x4, g1, h5, hf⟩ := bind2_inv hf
  refine AR.step rfl rfl rfl (AO.call rfl _ rfl rfl pf_8 (c_r11_Expr _ _ h5 (cs 3 rfl (AR.step rfl rfl rfl (AO.alloc_own rfl zp_34 (fun b7 => (AR.step_none rfl rfl (AO.store_box (i := 0) rfl rfl rfl ti_34 rfl rfl rfl rfl rfl ?_))))))))
  refine cs 1 rfl (AR.nil [5, 6, 7, 8] rfl (AW.sr (AR.step rfl rfl rfl (AO.load_box (i := 1) rfl rfl rfl ti_34 rfl rfl ?_))))
  refine AR.step rfl rfl rfl (AO.load_box (i := 0) rfl rfl rfl ti_34 rfl rfl ?_)
  obtain ⟨x5, h6, hf⟩ := bind1_inv hf
  refine AR.step rfl rfl rfl (AO.call rfl _ rfl rfl pf_9 (c_r08_Same _ _ h6 (cs 1 rfl (AR.and 4 30 34 [5, 6] (x := (f1 == g1)) rfl rfl (fun h7 => ?_) (fun h7 => ?_) ?_))))
  ·
   refine AR.is 30 h7 rfl (cs 4 rfl (AR.nil [34, 5, 6] rfl ?_))
   exact ⟨rfl, rfl, rfl, rfl⟩
  ·
   refine AR.is 30 h7 rfl (cs 4 rfl (AR.nil [34, 5, 6] rfl ?_))
   exact ⟨rfl, rfl, rfl, rfl⟩
  refine cs 1 rfl ?_
  obtain ⟨b1, h9, hf⟩ := bind1_inv hf
  refine AR.join1 8 35 43 true [] b1 rfl rfl (fun h8 => ?_) (fun h8 => ?_) ?_
  ·
   replace h9 := ite_T h8 h9
   refine AR.is 35 h8 rfl (cs 3 rfl ?_)
   replace h9 := (bind1_ret _).trans h9
   obtain ⟨b2, h11, h9⟩ := bind1_inv h9
   refine AR.join1 4 38 42 false [35] b2 rfl rfl (fun h10 => ?_) (fun h10 => ?_) ?_
   ·
    replace h11 := ite_F h10 h11
    refine AR.is 38 h10 rfl (AR.go rfl rfl rfl rfl rfl rfl (AO.load_box (i := 1) rfl rfl rfl ti_34 rfl rfl ?_))
    obtain ⟨x6, h12, h11⟩ := bind1_inv h11
    refine AR.go rfl rfl rfl rfl rfl rfl (AO.call rfl _ rfl rfl pf_10 (c_typing_Valid _ h12 (cs 1 rfl ?_)))
    obtain rfl := Option.some.inj h11
    refine cs 1 rfl (AR.nil [42, 35] rfl ?_)
    exact ⟨rfl, rfl, rfl, rfl⟩
   ·
    replace h11 := ite_T h10 h11
    refine AR.is 38 h10 rfl ?_
    obtain rfl := Option.some.inj h11
    refine cs 4 rfl (AR.nil [42, 35] rfl ?_)
    exact ⟨rfl, rfl, rfl, rfl⟩
   obtain rfl := Option.some.inj h9
   refine cs 1 rfl (AR.nil [43] rfl ?_)
   exact ⟨rfl, rfl, rfl, rfl⟩
  ·
   replace h9 := ite_F h8 h9
   refine AR.is 35 h8 rfl ?_
   obtain rfl := Option.some.inj h9
   refine cs 8 rfl (AR.nil [43] rfl ?_)
   exact ⟨rfl, rfl, rfl, rfl⟩
  refine cs 1 rfl ?_
  replace hf := (bind1_ret _).trans hf
  obtain ⟨b3, h14, hf⟩ := bind1_inv hf
  refine AR.join1 2 44 46 true [] b3 rfl rfl (fun h13 => ?_) (fun h13 => ?_) ?_
  ·
   replace h14 := ite_T h13 h14
   refine AR.is 44 h13 rfl ?_
   replace h14 := (bind1_ret _).trans h14
   obtain ⟨x7, h15, h14⟩ := bind1_inv h14
   refine AR.go rfl rfl rfl rfl rfl rfl (AO.call rfl _ rfl rfl pf_6 (c_l11_awake  h15 ?_))
   obtain rfl := Option.some.inj h14
   refine cs 1 rfl (AR.nil [46] rfl ?_)
   exact ⟨rfl, rfl, rfl, rfl⟩
  ·
   replace h14 := ite_F h13 h14
   refine AR.is 44 h13 rfl ?_
   obtain rfl := Option.some.inj h14
   refine cs 2 rfl (AR.nil [46] rfl ?_)
   exact ⟨rfl, rfl, rfl, rfl⟩
  refine cs 1 rfl (AR.nil [4] rfl (AW.ret ?_))
  cases hf
  exact ⟨rfl, _, ⟨_, _, rfl, rfl, rfl⟩, [], List.nil_sublist _, h⟩


end Go.Proofs.YtfmbeoeeakojoaaGreatDoor
