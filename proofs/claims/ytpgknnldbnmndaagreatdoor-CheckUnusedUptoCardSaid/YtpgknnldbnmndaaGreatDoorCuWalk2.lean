/- Proved here: each function does what its functional text says (part 2). -/
import Derived.Test.YtpgknnldbnmndaaGreatDoorCuWalk1
set_option linter.unusedVariables false
set_option linter.unusedSimpArgs false
namespace Go.Proofs.YtpgknnldbnmndaaGreatDoor
open Go Go.Abs Go.Ft
set_option maxRecDepth 20000
attribute [local irreducible] AO AR AW AC
theorem c_ident_run  (s1 : Str) {r0 : Int} (hf : ident_run s1 = some r0) {τ : List Res} {Q : AOut → List Res → Prop} (h : Q (.ret (.int .i64 r0)) τ) : AC Tryz.prog 58 [.str s1] τ Q := by
 unfold ident_run at hf
 refine AC.none (AC.of_body 17 [.tmp 2] [0] Tryz.func58 rfl rfl rfl rfl rfl (AW.sr (cs 1 rfl ?_)))
 refine AR.nil [0] rfl (AW.sr (cs 1 rfl (AR.nil [0, 3] rfl ?_)))
 refine AW.seq (AW.block (AW.settle [0, 3] rfl (AW.loopF1 (fun n1 => [(0, .str s1), (3, .int .i64 n1)]) (fun n1 => []) (fun kk1 n1 => ident_run_l1 s1 kk1 n1 = some r0) BIG 0 rfl rfl hf (fun _ hz => none_no hz) ?_)))
 intro kk1 n1 hf
 rw [ident_run_l1] at hf
 refine AW.seq (AW.sr (cs 2 rfl (AR.step rfl rfl rfl (AO.len_str rfl rfl rfl rfl un_9 rfl ?_))))
 refine cs 2 rfl ?_
 obtain ⟨b1, h2, hf⟩ := bind1_inv hf
 refine AR.join1 5 8 13 true [0, 3] b1 rfl rfl (fun h1 => ?_) (fun h1 => ?_) ?_
 ·
  replace h2 := ite_T h1 h2
  refine AR.is 8 h1 rfl (cs 2 rfl ?_)
  obtain ⟨x1, h3, h2⟩ := bind1_inv h2
  refine AR.go rfl rfl rfl rfl rfl rfl (AO.idx_str h3 rfl un_9 rfl rfl ?_)
  replace h2 := (bind1_ret _).trans h2
  obtain ⟨x2, h4, h2⟩ := bind1_inv h2
  refine AR.go rfl rfl rfl rfl rfl rfl (AO.call rfl _ rfl rfl pf_97 (c_ident_digit _ h4 ?_))
  obtain rfl := Option.some.inj h2
  refine cs 1 rfl (AR.nil [13, 0, 3] rfl ?_)
  exact ⟨rfl, rfl, rfl, rfl⟩
 ·
  replace h2 := ite_F h1 h2
  refine AR.is 8 h1 rfl ?_
  obtain rfl := Option.some.inj h2
  refine cs 5 rfl (AR.nil [13, 0, 3] rfl ?_)
  exact ⟨rfl, rfl, rfl, rfl⟩
 refine AR.nil [0, 3, 13] rfl (AW.cond rfl (fun h5 => ?_) (fun h5 => ?_))
 ·
  replace hf := ite_T h5 hf
  refine AW.skip (AW.block (AW.region (cs 3 rfl ?_)))
  refine AR.nil [0, 3] rfl ?_
  exact ⟨(w64 (n1 + 1)), rfl, rfl, rfl, hf⟩
 ·
  replace hf := ite_F h5 hf
  refine AW.exit (AW.sr (cs 2 rfl (AR.nil [2] rfl ?_)))
  refine AW.ret ?_
  cases hf
  exact ⟨rfl, _, ⟨_, _, rfl, rfl, rfl⟩, [], List.nil_sublist _, h⟩

theorem c_strings_trimLeftByte  (s1 : Str) (c1 : UInt8) {r0 : Str} (hf : strings_trimLeftByte s1 c1 = some r0) {τ : List Res} {Q : AOut → List Res → Prop} (h : Q (.ret (.str r0)) τ) : AC Tryz.prog 125 [.str s1, .int .u8 (c1.toNat : Int)] τ Q := by
 unfold strings_trimLeftByte at hf
 refine AC.none (AC.of_body 17 [.tmp 4] [0, 1] Tryz.func125 rfl rfl rfl rfl rfl (AW.sr (cs 1 rfl ?_)))
 refine AR.nil [0, 1] rfl (AW.seq (AW.block (AW.settle [0, 1] rfl ?_)))
 refine AW.loopF1 (fun s2 => [(0, .str s2), (1, .int .u8 (c1.toNat : Int))]) (fun s2 => []) (fun kk1 s2 => strings_trimLeftByte_l1 c1 kk1 s2 = some r0) BIG s1 rfl rfl hf (fun _ hz => none_no hz) ?_
 intro kk1 s2 hf
 rw [strings_trimLeftByte_l1] at hf
 refine AW.seq (AW.sr (cs 1 rfl (AR.step rfl rfl rfl (AO.len_str rfl rfl rfl rfl un_9 rfl ?_))))
 refine cs 2 rfl ?_
 obtain ⟨b1, h2, hf⟩ := bind1_inv hf
 refine AR.join1 5 8 13 true [0, 1] b1 rfl rfl (fun h1 => ?_) (fun h1 => ?_) ?_
 ·
  replace h2 := ite_T h1 h2
  refine AR.is 8 h1 rfl (cs 1 rfl ?_)
  obtain ⟨x1, h3, h2⟩ := bind1_inv h2
  refine AR.go rfl rfl rfl rfl rfl rfl (AO.idx_str h3 rfl un_9 rfl rfl (cs 2 rfl ?_))
  obtain rfl := Option.some.inj h2
  refine cs 1 rfl (AR.nil [13, 0, 1] rfl ?_)
  exact ⟨rfl, rfl, rfl, rfl⟩
 ·
  replace h2 := ite_F h1 h2
  refine AR.is 8 h1 rfl ?_
  obtain rfl := Option.some.inj h2
  refine cs 5 rfl (AR.nil [13, 0, 1] rfl ?_)
  exact ⟨rfl, rfl, rfl, rfl⟩
 refine AR.nil [0, 1, 13] rfl (AW.cond rfl (fun h4 => ?_) (fun h4 => ?_))
 ·
  replace hf := ite_T h4 hf
  refine AW.skip (AW.block (AW.region (cs 1 rfl ?_)))
  obtain ⟨s3, h5, hf⟩ := bind1_inv hf
  refine AR.step rfl rfl rfl (AO.sl_str h5 rfl un_9 rfl ⟨_, rfl⟩ rfl (cs 1 rfl (AR.nil [0, 1] rfl ?_)))
  exact ⟨s3, rfl, rfl, rfl, hf⟩
 ·
  replace hf := ite_F h4 hf
  refine AW.exit (AW.sr (cs 2 rfl (AR.nil [4] rfl ?_)))
  refine AW.ret ?_
  cases hf
  exact ⟨rfl, _, ⟨_, _, rfl, rfl, rfl⟩, [], List.nil_sublist _, h⟩

theorem c_strings_TrimLeft  (s1 : Str) (cutset1 : Str) {r0 : Str} (hf : strings_TrimLeft s1 cutset1 = some r0) {τ : List Res} {Q : AOut → List Res → Prop} (h : Q (.ret (.str r0)) τ) : AC Tryz.prog 98 [.str s1, .str cutset1] τ Q := by
 unfold strings_TrimLeft at hf
 refine AC.none (AC.of_body 37 [.tmp 4] [0, 1] Tryz.func98 rfl rfl rfl rfl rfl (AW.sr (cs 1 rfl ?_)))
 refine AR.nil [0, 1] rfl (AW.seq (AW.sr (cs 3 rfl ?_)))
 refine AR.or 3 9 12 [0, 1] (x := (cutset1 == ([] : Str))) rfl rfl (fun h1 => ?_) (fun h1 => ?_) ?_
 ·
  refine AR.is 9 h1 rfl (cs 3 rfl (AR.nil [12, 0, 1] rfl ?_))
  exact ⟨rfl, rfl, rfl, rfl⟩
 ·
  refine AR.is 9 h1 rfl (cs 3 rfl (AR.nil [12, 0, 1] rfl ?_))
  exact ⟨rfl, rfl, rfl, rfl⟩
 refine AR.nil [0, 1, 12] rfl (AW.cond rfl (fun h2 => ?_) (fun h2 => ?_))
 ·
  replace hf := ite_T h2 hf
  refine AW.sr (cs 2 rfl (AR.nil [4] rfl (AW.ret ?_)))
  cases hf
  exact ⟨rfl, _, ⟨_, _, rfl, rfl, rfl⟩, [], List.nil_sublist _, h⟩
 ·
  replace hf := ite_F h2 hf
  refine AW.skip (AW.seq (AW.sr (cs 1 rfl ?_)))
  refine AR.step rfl rfl rfl (AO.len_str rfl rfl rfl rfl un_9 rfl (cs 2 rfl ?_))
  obtain ⟨b1, h4, hf⟩ := bind1_inv hf
  refine AR.join1 4 17 21 true [0, 1] b1 rfl rfl (fun h3 => ?_) (fun h3 => ?_) ?_
  ·
   replace h4 := ite_T h3 h4
   refine AR.is 17 h3 rfl (cs 1 rfl ?_)
   obtain ⟨x1, h5, h4⟩ := bind1_inv h4
   refine AR.go rfl rfl rfl rfl rfl rfl (AO.idx_str h5 rfl un_9 rfl rfl (cs 1 rfl ?_))
   obtain rfl := Option.some.inj h4
   refine cs 1 rfl (AR.nil [21, 0, 1] rfl ?_)
   exact ⟨rfl, rfl, rfl, rfl⟩
  ·
   replace h4 := ite_F h3 h4
   refine AR.is 17 h3 rfl ?_
   obtain rfl := Option.some.inj h4
   refine cs 4 rfl (AR.nil [21, 0, 1] rfl ?_)
   exact ⟨rfl, rfl, rfl, rfl⟩
  refine AR.nil [0, 1, 21] rfl (AW.cond rfl (fun h6 => ?_) (fun h6 => ?_))
  ·
   replace hf := ite_T h6 hf
   refine AW.sr (cs 2 rfl ?_)
   obtain ⟨x2, h7, hf⟩ := bind1_inv hf
   refine AR.step rfl rfl rfl (AO.idx_str h7 rfl un_9 rfl rfl ?_)
   replace hf := (bind1_ret _).trans hf
   obtain ⟨x3, h8, hf⟩ := bind1_inv hf
   refine AR.step rfl rfl rfl (AO.call rfl _ rfl rfl pf_125 (c_strings_trimLeftByte _ _ h8 (cs 1 rfl (AR.nil [4] rfl (AW.ret ?_)))))
   cases hf
   exact ⟨rfl, _, ⟨_, _, rfl, rfl, rfl⟩, [], List.nil_sublist _, h⟩
  ·
   replace hf := ite_F h6 hf
   refine AW.skip (AW.seq (AW.seq ?_))
   exact none_no hf

theorem c_cmp_isNaN_int  (x1 : Int) {r0 : Bool} (hf : cmp_isNaN_int x1 = some r0) {τ : List Res} {Q : AOut → List Res → Prop} (h : Q (.ret (.bool r0)) τ) : AC Tryz.prog 102 [.int .i64 x1] τ Q := by
 unfold cmp_isNaN_int at hf
 refine AC.none (AC.of_body 6 [.tmp 2] [0] Tryz.func102 rfl rfl rfl rfl rfl (AW.sr (cs 1 rfl ?_)))
 refine AR.nil [0] rfl (AW.sr (cs 4 rfl (AR.nil [2] rfl ?_)))
 refine AW.ret ?_
 cases hf
 exact ⟨rfl, _, ⟨_, _, rfl, rfl, rfl⟩, [], List.nil_sublist _, h⟩

theorem c_cmp_Compare_int  (x1 : Int) (y1 : Int) {r0 : Int} (hf : cmp_Compare_int x1 y1 = some r0) {τ : List Res} {Q : AOut → List Res → Prop} (h : Q (.ret (.int .i64 r0)) τ) : AC Tryz.prog 61 [.int .i64 x1, .int .i64 y1] τ Q := by
 unfold cmp_Compare_int at hf
 refine AC.none (AC.of_body 20 [.tmp 4] [0, 1] Tryz.func61 rfl rfl rfl rfl rfl (AW.sr (cs 1 rfl ?_)))
 refine AR.nil [0, 1] rfl (AW.sr (cs 1 rfl ?_))
 obtain ⟨xNaN1, h1, hf⟩ := bind1_inv hf
 refine AR.step rfl rfl rfl (AO.call rfl _ rfl rfl pf_102 (c_cmp_isNaN_int _ h1 (cs 1 rfl (AR.nil [0, 1, 5] rfl (AW.sr ?_)))))
 refine cs 1 rfl ?_
 obtain ⟨yNaN1, h2, hf⟩ := bind1_inv hf
 refine AR.step rfl rfl rfl (AO.call rfl _ rfl rfl pf_102 (c_cmp_isNaN_int _ h2 (cs 1 rfl (AR.nil [0, 1, 5, 6] rfl (AW.seq ?_)))))
 refine AW.sr (cs 1 rfl (AR.nil [0, 1, 6, 11] rfl (AW.cond rfl (fun h3 => ?_) (fun h3 => ?_))))
 ·
  replace hf := ite_T h3 hf
  refine AW.seq (AW.sr (cs 1 rfl (AR.nil [12] rfl ?_)))
  refine AW.cond rfl (fun h4 => ?_) (fun h4 => ?_)
  ·
   replace hf := ite_T h4 hf
   refine AW.sr (cs 1 rfl (AR.nil [4] rfl (AW.ret ?_)))
   cases hf
   exact ⟨rfl, _, ⟨_, _, rfl, rfl, rfl⟩, [], List.nil_sublist _, h⟩
  ·
   replace hf := ite_F h4 hf
   refine AW.skip (AW.sr (cs 1 rfl (AR.nil [4] rfl ?_)))
   refine AW.ret ?_
   cases hf
   exact ⟨rfl, _, ⟨_, _, rfl, rfl, rfl⟩, [], List.nil_sublist _, h⟩
 ·
  replace hf := ite_F h3 hf
  refine AW.skip (AW.seq (AW.sr (cs 1 rfl ?_)))
  refine AR.nil [0, 1, 13] rfl (AW.cond rfl (fun h5 => ?_) (fun h5 => ?_))
  ·
   replace hf := ite_T h5 hf
   refine AW.sr (cs 1 rfl (AR.nil [4] rfl (AW.ret ?_)))
   cases hf
   exact ⟨rfl, _, ⟨_, _, rfl, rfl, rfl⟩, [], List.nil_sublist _, h⟩
  ·
   replace hf := ite_F h5 hf
   refine AW.skip (AW.seq (AW.sr (cs 3 rfl ?_)))
   refine AR.nil [0, 1, 16] rfl (AW.cond rfl (fun h6 => ?_) (fun h6 => ?_))
   ·
    replace hf := ite_T h6 hf
    refine AW.sr (cs 1 rfl (AR.nil [4] rfl (AW.ret ?_)))
    cases hf
    exact ⟨rfl, _, ⟨_, _, rfl, rfl, rfl⟩, [], List.nil_sublist _, h⟩
   ·
    replace hf := ite_F h6 hf
    refine AW.skip (AW.seq (AW.sr (cs 3 rfl ?_)))
    refine AR.nil [19] rfl (AW.cond rfl (fun h7 => ?_) (fun h7 => ?_))
    ·
     replace hf := ite_T h7 hf
     refine AW.sr (cs 1 rfl (AR.nil [4] rfl (AW.ret ?_)))
     cases hf
     exact ⟨rfl, _, ⟨_, _, rfl, rfl, rfl⟩, [], List.nil_sublist _, h⟩
    ·
     replace hf := ite_F h7 hf
     refine AW.skip (AW.sr (cs 1 rfl (AR.nil [4] rfl ?_)))
     refine AW.ret ?_
     cases hf
     exact ⟨rfl, _, ⟨_, _, rfl, rfl, rfl⟩, [], List.nil_sublist _, h⟩

theorem c_cmp_isNaN_string  (x1 : Str) {r0 : Bool} (hf : cmp_isNaN_string x1 = some r0) {τ : List Res} {Q : AOut → List Res → Prop} (h : Q (.ret (.bool r0)) τ) : AC Tryz.prog 129 [.str x1] τ Q := by
 unfold cmp_isNaN_string at hf
 refine AC.none (AC.of_body 6 [.tmp 2] [0] Tryz.func129 rfl rfl rfl rfl rfl (AW.sr (cs 1 rfl ?_)))
 refine AR.nil [0] rfl (AW.sr (cs 4 rfl (AR.nil [2] rfl ?_)))
 refine AW.ret ?_
 cases hf
 exact ⟨rfl, _, ⟨_, _, rfl, rfl, rfl⟩, [], List.nil_sublist _, h⟩

theorem c_cmp_Compare_string  (x1 : Str) (y1 : Str) {r0 : Int} (hf : cmp_Compare_string x1 y1 = some r0) {τ : List Res} {Q : AOut → List Res → Prop} (h : Q (.ret (.int .i64 r0)) τ) : AC Tryz.prog 100 [.str x1, .str y1] τ Q := by
 unfold cmp_Compare_string at hf
 refine AC.none (AC.of_body 20 [.tmp 4] [0, 1] Tryz.func100 rfl rfl rfl rfl rfl (AW.sr (cs 1 rfl ?_)))
 refine AR.nil [0, 1] rfl (AW.sr (cs 1 rfl ?_))
 obtain ⟨xNaN1, h1, hf⟩ := bind1_inv hf
 refine AR.step rfl rfl rfl (AO.call rfl _ rfl rfl pf_129 (c_cmp_isNaN_string _ h1 (cs 1 rfl (AR.nil [0, 1, 5] rfl (AW.sr ?_)))))
 refine cs 1 rfl ?_
 obtain ⟨yNaN1, h2, hf⟩ := bind1_inv hf
 refine AR.step rfl rfl rfl (AO.call rfl _ rfl rfl pf_129 (c_cmp_isNaN_string _ h2 (cs 1 rfl (AR.nil [0, 1, 5, 6] rfl (AW.seq ?_)))))
 refine AW.sr (cs 1 rfl (AR.nil [0, 1, 6, 11] rfl (AW.cond rfl (fun h3 => ?_) (fun h3 => ?_))))
 ·
  replace hf := ite_T h3 hf
  refine AW.seq (AW.sr (cs 1 rfl (AR.nil [12] rfl ?_)))
  refine AW.cond rfl (fun h4 => ?_) (fun h4 => ?_)
  ·
   replace hf := ite_T h4 hf
   refine AW.sr (cs 1 rfl (AR.nil [4] rfl (AW.ret ?_)))
   cases hf
   exact ⟨rfl, _, ⟨_, _, rfl, rfl, rfl⟩, [], List.nil_sublist _, h⟩
  ·
   replace hf := ite_F h4 hf
   refine AW.skip (AW.sr (cs 1 rfl (AR.nil [4] rfl ?_)))
   refine AW.ret ?_
   cases hf
   exact ⟨rfl, _, ⟨_, _, rfl, rfl, rfl⟩, [], List.nil_sublist _, h⟩
 ·
  replace hf := ite_F h3 hf
  refine AW.skip (AW.seq (AW.sr (cs 1 rfl ?_)))
  refine AR.nil [0, 1, 13] rfl (AW.cond rfl (fun h5 => ?_) (fun h5 => ?_))
  ·
   replace hf := ite_T h5 hf
   refine AW.sr (cs 1 rfl (AR.nil [4] rfl (AW.ret ?_)))
   cases hf
   exact ⟨rfl, _, ⟨_, _, rfl, rfl, rfl⟩, [], List.nil_sublist _, h⟩
  ·
   replace hf := ite_F h5 hf
   refine AW.skip (AW.seq (AW.sr (cs 3 rfl ?_)))
   refine AR.nil [0, 1, 16] rfl (AW.cond rfl (fun h6 => ?_) (fun h6 => ?_))
   ·
    replace hf := ite_T h6 hf
    refine AW.sr (cs 1 rfl (AR.nil [4] rfl (AW.ret ?_)))
    cases hf
    exact ⟨rfl, _, ⟨_, _, rfl, rfl, rfl⟩, [], List.nil_sublist _, h⟩
   ·
    replace hf := ite_F h6 hf
    refine AW.skip (AW.seq (AW.sr (cs 3 rfl ?_)))
    refine AR.nil [19] rfl (AW.cond rfl (fun h7 => ?_) (fun h7 => ?_))
    ·
     replace hf := ite_T h7 hf
     refine AW.sr (cs 1 rfl (AR.nil [4] rfl (AW.ret ?_)))
     cases hf
     exact ⟨rfl, _, ⟨_, _, rfl, rfl, rfl⟩, [], List.nil_sublist _, h⟩
    ·
     replace hf := ite_F h7 hf
     refine AW.skip (AW.sr (cs 1 rfl (AR.nil [4] rfl ?_)))
     refine AW.ret ?_
     cases hf
     exact ⟨rfl, _, ⟨_, _, rfl, rfl, rfl⟩, [], List.nil_sublist _, h⟩

theorem c_cmp_Or_int  (vals1 : List Int) {r0 : Int} (hf : cmp_Or_int vals1 = some r0) {τ : List Res} {Q : AOut → List Res → Prop} (h : Q (.ret (.int .i64 r0)) τ) : AC Tryz.prog 99 [.list (List.map intC vals1)] τ Q := by
 unfold cmp_Or_int at hf
 refine AC.none (AC.of_body 18 [.tmp 2] [0] Tryz.func99 rfl rfl rfl rfl rfl (AW.sr (cs 1 rfl ?_)))
 refine AR.nil [0] rfl (AW.sr (cs 1 rfl (AR.nil [0, 3] rfl ?_)))
 refine AW.seq (AW.sr (cs 1 rfl (AR.step rfl rfl rfl (AO.len_list (l := vals1) rfl rfl rfl rfl es_149 rfl rfl ?_))))
 refine cs 1 rfl (AR.nil [3, 6, 7, 8] rfl (AW.block (AW.settle [3, 6, 7, 8] rfl ?_)))
 refine AW.loopF1 (fun x1 => [(3, .int .i64 0), (6, .list (List.map intC vals1)), (7, .int .i64 (vals1.length : Int)), (8, .int .i64 x1)]) (fun x1 => []) (fun kk1 x1 => cmp_Or_int_l1 vals1 kk1 x1 = some r0) BIG 0 rfl rfl hf (fun _ hz => none_no hz) ?_
 intro kk1 x1 hf
 rw [cmp_Or_int_l1] at hf
 refine AW.sr (cs 1 rfl (AR.nil [3, 6, 7, 8, 9] rfl (AW.seq ?_)))
 refine AW.cond rfl (fun h1 => ?_) (fun h1 => ?_)
 ·
  replace hf := ite_T h1 hf
  refine AW.skip (AW.seq (AW.block (AW.sr ?_)))
  obtain ⟨val1, h2, hf⟩ := bind1_inv hf
  refine AR.step rfl rfl rfl (AO.idx_list h2 rfl rfl rfl rfl es_149 rfl rfl (cs 2 rfl (AR.nil [3, 5, 6, 7, 8] rfl (AW.sr ?_))))
  refine cs 3 rfl (AR.nil [3, 5, 6, 7, 8, 14] rfl (AW.cond rfl (fun h3 => ?_) (fun h3 => ?_)))
  ·
   replace hf := ite_T h3 hf
   refine AW.sr (cs 2 rfl (AR.nil [2] rfl (AW.ret ?_)))
   cases hf
   exact ⟨rfl, _, ⟨_, _, rfl, rfl, rfl⟩, [], List.nil_sublist _, h⟩
  ·
   replace hf := ite_F h3 hf
   refine AW.skip (AW.region (cs 2 rfl (AR.nil [3, 6, 7, 8] rfl ?_)))
   exact ⟨(w64 (x1 + 1)), rfl, rfl, rfl, hf⟩
 ·
  replace hf := ite_F h1 hf
  refine AW.exit (AW.sr (cs 2 rfl (AR.nil [2] rfl ?_)))
  refine AW.ret ?_
  cases hf
  exact ⟨rfl, _, ⟨_, _, rfl, rfl, rfl⟩, [], List.nil_sublist _, h⟩

theorem c_ident_numbers  (a1 : Str) (b1 : Str) {r0 : Int} (hf : ident_numbers a1 b1 = some r0) {τ : List Res} {Q : AOut → List Res → Prop} (h : Q (.ret (.int .i64 r0)) τ) : AC Tryz.prog 59 [.str a1, .str b1] τ Q := by
 unfold ident_numbers at hf
 refine AC.none (AC.of_body 26 [.tmp 4] [0, 1] Tryz.func59 rfl rfl rfl rfl rfl (AW.sr (cs 1 rfl ?_)))
 refine AR.nil [0, 1] rfl (AW.sr (cs 1 rfl ?_))
 obtain ⟨x1, h1, hf⟩ := bind1_inv hf
 refine AR.step rfl rfl rfl (AO.call rfl _ rfl rfl pf_98 (c_strings_TrimLeft _ _ h1 (cs 1 rfl ?_)))
 obtain ⟨y1, h2, hf⟩ := bind1_inv hf
 refine AR.step rfl rfl rfl (AO.call rfl _ rfl rfl pf_98 (c_strings_TrimLeft _ _ h2 (cs 2 rfl (AR.nil [0, 1, 5, 6] rfl (AW.sr ?_)))))
 refine cs 1 rfl (AR.step rfl rfl rfl (AO.len_str rfl rfl rfl rfl un_9 rfl (cs 1 rfl (AR.step rfl rfl rfl (AO.len_str rfl rfl rfl rfl un_9 rfl ?_)))))
 obtain ⟨x2, h3, hf⟩ := bind1_inv hf
 refine AR.step rfl rfl rfl (AO.call rfl _ rfl rfl pf_61 (c_cmp_Compare_int _ _ h3 (cs 2 rfl ?_)))
 obtain ⟨x3, h4, hf⟩ := bind1_inv hf
 refine AR.step rfl rfl rfl (AO.call rfl _ rfl rfl pf_100 (c_cmp_Compare_string _ _ h4 (cs 1 rfl (AR.step rfl rfl rfl (AO.len_str rfl rfl rfl rfl un_9 rfl (cs 1 rfl ?_))))))
 refine AR.step rfl rfl rfl (AO.len_str rfl rfl rfl rfl un_9 rfl ?_)
 obtain ⟨x4, h5, hf⟩ := bind1_inv hf
 refine AR.step rfl rfl rfl (AO.call rfl _ rfl rfl pf_61 (c_cmp_Compare_int _ _ h5 (AR.step rfl rfl rfl (AO.buildSliceF (List.map intC ([x2, x3, x4] : List Int)) rfl sf_149 rfl rfl rfl rfl ?_))))
 replace hf := (bind1_ret _).trans hf
 obtain ⟨x5, h6, hf⟩ := bind1_inv hf
 refine AR.step rfl rfl rfl (AO.call rfl _ rfl rfl pf_99 (c_cmp_Or_int _ h6 (cs 1 rfl (AR.nil [4] rfl (AW.ret ?_)))))
 cases hf
 exact ⟨rfl, _, ⟨_, _, rfl, rfl, rfl⟩, [], List.nil_sublist _, h⟩

theorem c_cmp_isNaN_byte  (x1 : UInt8) {r0 : Bool} (hf : cmp_isNaN_byte x1 = some r0) {τ : List Res} {Q : AOut → List Res → Prop} (h : Q (.ret (.bool r0)) τ) : AC Tryz.prog 101 [.int .u8 (x1.toNat : Int)] τ Q := by
 unfold cmp_isNaN_byte at hf
 refine AC.none (AC.of_body 6 [.tmp 2] [0] Tryz.func101 rfl rfl rfl rfl rfl (AW.sr (cs 1 rfl ?_)))
 refine AR.nil [0] rfl (AW.sr (cs 4 rfl (AR.nil [2] rfl ?_)))
 refine AW.ret ?_
 cases hf
 exact ⟨rfl, _, ⟨_, _, rfl, rfl, rfl⟩, [], List.nil_sublist _, h⟩

theorem c_cmp_Compare_byte  (x1 : UInt8) (y1 : UInt8) {r0 : Int} (hf : cmp_Compare_byte x1 y1 = some r0) {τ : List Res} {Q : AOut → List Res → Prop} (h : Q (.ret (.int .i64 r0)) τ) : AC Tryz.prog 60 [.int .u8 (x1.toNat : Int), .int .u8 (y1.toNat : Int)] τ Q := by
 unfold cmp_Compare_byte at hf
 refine AC.none (AC.of_body 20 [.tmp 4] [0, 1] Tryz.func60 rfl rfl rfl rfl rfl (AW.sr (cs 1 rfl ?_)))
 refine AR.nil [0, 1] rfl (AW.sr (cs 1 rfl ?_))
 obtain ⟨xNaN1, h1, hf⟩ := bind1_inv hf
 refine AR.step rfl rfl rfl (AO.call rfl _ rfl rfl pf_101 (c_cmp_isNaN_byte _ h1 (cs 1 rfl (AR.nil [0, 1, 5] rfl (AW.sr ?_)))))
 refine cs 1 rfl ?_
 obtain ⟨yNaN1, h2, hf⟩ := bind1_inv hf
 refine AR.step rfl rfl rfl (AO.call rfl _ rfl rfl pf_101 (c_cmp_isNaN_byte _ h2 (cs 1 rfl (AR.nil [0, 1, 5, 6] rfl (AW.seq ?_)))))
 refine AW.sr (cs 1 rfl (AR.nil [0, 1, 6, 11] rfl (AW.cond rfl (fun h3 => ?_) (fun h3 => ?_))))
 ·
  replace hf := ite_T h3 hf
  refine AW.seq (AW.sr (cs 1 rfl (AR.nil [12] rfl ?_)))
  refine AW.cond rfl (fun h4 => ?_) (fun h4 => ?_)
  ·
   replace hf := ite_T h4 hf
   refine AW.sr (cs 1 rfl (AR.nil [4] rfl (AW.ret ?_)))
   cases hf
   exact ⟨rfl, _, ⟨_, _, rfl, rfl, rfl⟩, [], List.nil_sublist _, h⟩
  ·
   replace hf := ite_F h4 hf
   refine AW.skip (AW.sr (cs 1 rfl (AR.nil [4] rfl ?_)))
   refine AW.ret ?_
   cases hf
   exact ⟨rfl, _, ⟨_, _, rfl, rfl, rfl⟩, [], List.nil_sublist _, h⟩
 ·
  replace hf := ite_F h3 hf
  refine AW.skip (AW.seq (AW.sr (cs 1 rfl ?_)))
  refine AR.nil [0, 1, 13] rfl (AW.cond rfl (fun h5 => ?_) (fun h5 => ?_))
  ·
   replace hf := ite_T h5 hf
   refine AW.sr (cs 1 rfl (AR.nil [4] rfl (AW.ret ?_)))
   cases hf
   exact ⟨rfl, _, ⟨_, _, rfl, rfl, rfl⟩, [], List.nil_sublist _, h⟩
  ·
   replace hf := ite_F h5 hf
   refine AW.skip (AW.seq (AW.sr (cs 3 rfl ?_)))
   refine AR.nil [0, 1, 16] rfl (AW.cond rfl (fun h6 => ?_) (fun h6 => ?_))
   ·
    replace hf := ite_T h6 hf
    refine AW.sr (cs 1 rfl (AR.nil [4] rfl (AW.ret ?_)))
    cases hf
    exact ⟨rfl, _, ⟨_, _, rfl, rfl, rfl⟩, [], List.nil_sublist _, h⟩
   ·
    replace hf := ite_F h6 hf
    refine AW.skip (AW.seq (AW.sr (cs 3 rfl ?_)))
    refine AR.nil [19] rfl (AW.cond rfl (fun h7 => ?_) (fun h7 => ?_))
    ·
     replace hf := ite_T h7 hf
     refine AW.sr (cs 1 rfl (AR.nil [4] rfl (AW.ret ?_)))
     cases hf
     exact ⟨rfl, _, ⟨_, _, rfl, rfl, rfl⟩, [], List.nil_sublist _, h⟩
    ·
     replace hf := ite_F h7 hf
     refine AW.skip (AW.sr (cs 1 rfl (AR.nil [4] rfl ?_)))
     refine AW.ret ?_
     cases hf
     exact ⟨rfl, _, ⟨_, _, rfl, rfl, rfl⟩, [], List.nil_sublist _, h⟩

theorem c_ident_Compare  (a1 : Str) (b1 : Str) {r0 : Int} (hf : ident_Compare a1 b1 = some r0) {τ : List Res} {Q : AOut → List Res → Prop} (h : Q (.ret (.int .i64 r0)) τ) : AC Tryz.prog 30 [.str a1, .str b1] τ Q := by
 unfold ident_Compare at hf
 refine AC.none (AC.of_body 59 [.tmp 4] [0, 1] Tryz.func30 rfl rfl rfl rfl rfl (AW.sr (cs 1 rfl ?_)))
 refine AR.nil [0, 1] rfl (AW.seq (AW.block (AW.settle [0, 1] rfl ?_)))
 refine AW.loopF2 (fun a2 b2 => [(0, .str a2), (1, .str b2)]) (fun a2 b2 => []) (fun kk1 a2 b2 => ident_Compare_l1 kk1 a2 b2 = some r0) BIG a1 b1 rfl rfl hf (fun _ _ hz => none_no hz) ?_
 intro kk1 a2 b2 hf
 rw [ident_Compare_l1] at hf
 refine AW.seq (AW.sr (cs 3 rfl (AR.and 3 10 13 [0, 1] (x := (!(b2 == ([] : Str)))) rfl rfl (fun h1 => ?_) (fun h1 => ?_) ?_)))
 ·
  refine AR.is 10 h1 rfl (cs 3 rfl (AR.nil [13, 0, 1] rfl ?_))
  exact ⟨rfl, rfl, rfl, rfl⟩
 ·
  refine AR.is 10 h1 rfl (cs 3 rfl (AR.nil [13, 0, 1] rfl ?_))
  exact ⟨rfl, rfl, rfl, rfl⟩
 refine AR.nil [0, 1, 13] rfl (AW.cond rfl (fun h2 => ?_) (fun h2 => ?_))
 ·
  replace hf := ite_T h2 hf
  refine AW.skip (AW.block (AW.sr (cs 1 rfl ?_)))
  obtain ⟨n1, h3, hf⟩ := bind1_inv hf
  refine AR.step rfl rfl rfl (AO.call rfl _ rfl rfl pf_58 (c_ident_run _ h3 (cs 1 rfl ?_)))
  obtain ⟨m1, h4, hf⟩ := bind1_inv hf
  refine AR.step rfl rfl rfl (AO.call rfl _ rfl rfl pf_58 (c_ident_run _ h4 (cs 2 rfl (AR.nil [0, 1, 5, 6] rfl (AW.seq ?_)))))
  refine AW.sr (cs 3 rfl (AR.and 3 20 23 [0, 1, 5, 6] (x := (decide (0 < m1))) rfl rfl (fun h5 => ?_) (fun h5 => ?_) ?_))
  ·
   refine AR.is 20 h5 rfl (cs 3 rfl (AR.nil [23, 0, 1, 5, 6] rfl ?_))
   exact ⟨rfl, rfl, rfl, rfl⟩
  ·
   refine AR.is 20 h5 rfl (cs 3 rfl (AR.nil [23, 0, 1, 5, 6] rfl ?_))
   exact ⟨rfl, rfl, rfl, rfl⟩
  refine AR.nil [0, 1, 5, 6, 23] rfl (AW.cond rfl (fun h6 => ?_) (fun h6 => ?_))
  ·
   replace hf := ite_T h6 hf
   refine AW.seq (AW.seq (AW.draw 8 mixed (by kernel_rfl) rfl ?_))
   refine Ev.cs FX_ok 2 rfl ?_
   obtain ⟨x1, h7, hf⟩ := bind1_inv hf
   refine Ev.cons rfl rfl rfl (AO.sl_str h7 rfl un_9 rfl rfl ⟨_, rfl⟩ ⟨rfl, rfl⟩) (Ev.cs FX_ok 2 rfl ?_)
   obtain ⟨x2, h8, hf⟩ := bind1_inv hf
   refine Ev.cons rfl rfl rfl (AO.sl_str h8 rfl un_9 rfl rfl ⟨_, rfl⟩ ⟨rfl, rfl⟩) ?_
   obtain ⟨c1, h9, hf⟩ := bind1_inv hf
   refine Ev.cons rfl rfl rfl (AO.call rfl _ rfl rfl pf_59 (c_ident_numbers _ _ h9 ⟨rfl, rfl⟩)) (Ev.cs FX_ok 1 rfl (Ev.nil ?_))
   show AR _ _ _ _ _ _ _ _
   refine AR.nil [0, 1, 5, 6, 7] rfl (AW.sr (cs 2 rfl (AR.nil [0, 1, 5, 6, 7, 32] rfl ?_)))
   refine AW.cond rfl (fun h10 => ?_) (fun h10 => ?_)
   ·
    replace hf := ite_T h10 hf
    refine AW.sr (cs 2 rfl (AR.nil [4] rfl (AW.ret ?_)))
    cases hf
    exact ⟨rfl, _, ⟨_, _, rfl, rfl, rfl⟩, [], List.nil_sublist _, h⟩
   ·
    replace hf := ite_F h10 hf
    refine AW.skip (AW.seq (AW.draw 8 mixed (by kernel_rfl) rfl ?_))
    refine Ev.cs FX_ok 2 rfl ?_
    obtain ⟨a3, h11, hf⟩ := bind1_inv hf
    refine Ev.cons rfl rfl rfl (AO.sl_str h11 rfl un_9 rfl ⟨_, rfl⟩ rfl ⟨rfl, rfl⟩) (Ev.cs FX_ok 2 rfl ?_)
    obtain ⟨b3, h12, hf⟩ := bind1_inv hf
    refine Ev.cons rfl rfl rfl (AO.sl_str h12 rfl un_9 rfl ⟨_, rfl⟩ rfl ⟨rfl, rfl⟩) (Ev.cs FX_ok 2 rfl (Ev.nil ?_))
    show AR _ _ _ _ _ _ _ _
    refine AR.nil [0, 1] rfl (AW.exit ?_)
    exact ⟨a3, b3, rfl, rfl, rfl, hf⟩
  ·
   replace hf := ite_F h6 hf
   refine AW.skip (AW.seq (AW.seq (AW.draw 5 mixed (by kernel_rfl) rfl ?_)))
   refine Ev.cs FX_ok 1 rfl ?_
   obtain ⟨x3, h13, hf⟩ := bind1_inv hf
   refine Ev.cons rfl rfl rfl (AO.idx_str h13 rfl un_9 rfl rfl ⟨rfl, rfl⟩) (Ev.cs FX_ok 1 rfl ?_)
   obtain ⟨x4, h14, hf⟩ := bind1_inv hf
   refine Ev.cons rfl rfl rfl (AO.idx_str h14 rfl un_9 rfl rfl ⟨rfl, rfl⟩) (Ev.cs FX_ok 1 rfl (Ev.nil ?_))
   show AR _ _ _ _ _ _ _ _
   refine AR.nil [0, 1, 44] rfl (AW.cond rfl (fun h15 => ?_) (fun h15 => ?_))
   ·
    replace hf := ite_T h15 hf
    refine AW.seq (AW.draw 6 mixed (by kernel_rfl) rfl ?_)
    refine Ev.cs FX_ok 1 rfl ?_
    obtain ⟨x5, h16, hf⟩ := bind1_inv hf
    refine Ev.cons rfl rfl rfl (AO.idx_str h16 rfl un_9 rfl rfl ⟨rfl, rfl⟩) (Ev.cs FX_ok 1 rfl ?_)
    obtain ⟨x6, h17, hf⟩ := bind1_inv hf
    refine Ev.cons rfl rfl rfl (AO.idx_str h17 rfl un_9 rfl rfl ⟨rfl, rfl⟩) ?_
    replace hf := (bind1_ret _).trans hf
    obtain ⟨x7, h18, hf⟩ := bind1_inv hf
    refine Ev.cons rfl rfl rfl (AO.call rfl _ rfl rfl pf_60 (c_cmp_Compare_byte _ _ h18 ⟨rfl, rfl⟩)) (Ev.cs FX_ok 1 rfl (Ev.nil ?_))
    show AR _ _ _ _ _ _ _ _
    refine AR.nil [4] rfl (AW.ret ?_)
    cases hf
    exact ⟨rfl, _, ⟨_, _, rfl, rfl, rfl⟩, [], List.nil_sublist _, h⟩
   ·
    replace hf := ite_F h15 hf
    refine AW.skip (AW.draw 6 mixed (by kernel_rfl) rfl ?_)
    refine Ev.cs FX_ok 1 rfl ?_
    obtain ⟨a4, h19, hf⟩ := bind1_inv hf
    refine Ev.cons rfl rfl rfl (AO.sl_str h19 rfl un_9 rfl ⟨_, rfl⟩ rfl ⟨rfl, rfl⟩) (Ev.cs FX_ok 1 rfl ?_)
    obtain ⟨b4, h20, hf⟩ := bind1_inv hf
    refine Ev.cons rfl rfl rfl (AO.sl_str h20 rfl un_9 rfl ⟨_, rfl⟩ rfl ⟨rfl, rfl⟩) (Ev.cs FX_ok 2 rfl (Ev.nil ?_))
    show AR _ _ _ _ _ _ _ _
    refine AR.nil [0, 1] rfl ?_
    exact ⟨a4, b4, rfl, rfl, rfl, hf⟩
 ·
  replace hf := ite_F h2 hf
  refine AW.exit (AW.sr (cs 1 rfl (AR.step rfl rfl rfl (AO.len_str rfl rfl rfl rfl un_9 rfl ?_))))
  refine cs 1 rfl (AR.step rfl rfl rfl (AO.len_str rfl rfl rfl rfl un_9 rfl ?_))
  replace hf := (bind1_ret _).trans hf
  obtain ⟨x8, h21, hf⟩ := bind1_inv hf
  refine AR.step rfl rfl rfl (AO.call rfl _ rfl rfl pf_61 (c_cmp_Compare_int _ _ h21 (cs 1 rfl (AR.nil [4] rfl (AW.ret ?_)))))
  cases hf
  exact ⟨rfl, _, ⟨_, _, rfl, rfl, rfl⟩, [], List.nil_sublist _, h⟩

theorem c_value_keyed  (v1 : ApiValue) {r0 : Bool} (hf : value_keyed v1 = some r0) {τ : List Res} {Q : AOut → List Res → Prop} (h : Q (.ret (.bool r0)) τ) : AC Tryz.prog 137 [.agg [.int .i64 v1.kind, .bool v1.bool_, .int .i64 v1.int_, .str v1.str_, .list (ApiValue.cellsL v1.list_), .list (List.map strC v1.keys)]] τ Q := by
 unfold value_keyed at hf
 refine AC.none (AC.of_body 44 [.tmp 2] [0] Tryz.func137 rfl rfl rfl rfl rfl (AW.sr (AR.step rfl rfl rfl (AO.box_ref rfl rfl rfl ?_))))
 refine cs 1 rfl (AR.nil [1] rfl (AW.seq (AW.sr ?_)))
 refine cs 2 rfl (AR.step rfl rfl rfl (AO.len_list (l := v1.keys) rfl rfl rfl rfl es_23 rfl rfl (cs 2 rfl (AR.step rfl rfl rfl (AO.len_list (l := v1.list_) rfl rfl rfl rfl es_22 rfl (ApiValue.cellsL_eq _) ?_)))))
 refine cs 1 rfl (AR.nil [1, 11] rfl (AW.cond rfl (fun h1 => ?_) (fun h1 => ?_)))
 ·
  replace hf := ite_T h1 hf
  refine AW.sr (cs 1 rfl (AR.nil [2] rfl (AW.ret ?_)))
  cases hf
  exact ⟨rfl, _, ⟨_, _, rfl, rfl, rfl⟩, [], List.nil_sublist _, h⟩
 ·
  replace hf := ite_F h1 hf
  refine AW.skip (AW.seq (AW.sr (cs 2 rfl ?_)))
  refine AR.step rfl rfl rfl (AO.len_list (l := v1.keys) rfl rfl rfl rfl es_23 rfl rfl (cs 1 rfl (AR.nil [1, 13, 14, 15] rfl (AW.block ?_))))
  refine AW.settle [1, 13, 14, 15] rfl (AW.loopF1 (fun i1 => [(1, .ref [.int .i64 v1.kind, .bool v1.bool_, .int .i64 v1.int_, .str v1.str_, .list (ApiValue.cellsL v1.list_), .list (List.map strC v1.keys)]), (13, .list (List.map strC v1.keys)), (14, .int .i64 (v1.keys.length : Int)), (15, .int .i64 i1)]) (fun i1 => []) (fun kk1 i1 => value_keyed_l1 v1 kk1 i1 = some r0) BIG 0 rfl rfl hf (fun _ hz => none_no hz) ?_)
  intro kk1 i1 hf
  rw [value_keyed_l1] at hf
  refine AW.sr (cs 1 rfl (AR.nil [1, 13, 14, 15, 16] rfl (AW.seq ?_)))
  refine AW.cond rfl (fun h2 => ?_) (fun h2 => ?_)
  ·
   replace hf := ite_T h2 hf
   refine AW.skip (AW.seq (AW.block (AW.sr ?_)))
   refine cs 1 rfl ?_
   obtain ⟨kx1, h3, hf⟩ := bind1_inv hf
   refine AR.step rfl rfl rfl (AO.idx_list h3 rfl rfl rfl rfl es_23 rfl rfl (cs 3 rfl (AR.nil [1, 3, 4, 13, 14, 15] rfl (AW.sr ?_))))
   refine cs 1 rfl (AR.step rfl rfl rfl (AO.len_str rfl rfl rfl rfl un_9 rfl (cs 2 rfl (AR.or 4 23 27 [1, 3, 4, 13, 14, 15] (x := (decide (64 < (kx1.length : Int)))) rfl rfl (fun h4 => ?_) (fun h4 => ?_) ?_))))
   ·
    refine AR.is 23 h4 rfl (cs 1 rfl (AR.go rfl rfl rfl rfl rfl rfl (AO.len_str rfl rfl rfl rfl un_9 rfl (cs 2 rfl ?_))))
    refine AR.nil [27, 1, 3, 4, 13, 14, 15] rfl ?_
    exact ⟨rfl, rfl, rfl, rfl⟩
   ·
    refine AR.is 23 h4 rfl (cs 4 rfl (AR.nil [27, 1, 3, 4, 13, 14, 15] rfl ?_))
    exact ⟨rfl, rfl, rfl, rfl⟩
   refine cs 1 rfl ?_
   obtain ⟨b1, h6, hf⟩ := bind1_inv hf
   refine AR.join1 14 28 42 false [1, 13, 14, 15] b1 rfl rfl (fun h5 => ?_) (fun h5 => ?_) ?_
   ·
    replace h6 := ite_F h5 h6
    refine AR.is 28 h5 rfl (cs 3 rfl ?_)
    replace h6 := (bind1_ret _).trans h6
    obtain ⟨b2, h8, h6⟩ := bind1_inv h6
    refine AR.join1 10 31 41 true [1, 13, 14, 15, 28] b2 rfl rfl (fun h7 => ?_) (fun h7 => ?_) ?_
    ·
     replace h8 := ite_T h7 h8
     refine AR.is 31 h7 rfl (cs 4 rfl ?_)
     obtain ⟨e1, h9, h8⟩ := bind1_inv h8
     refine AR.go rfl rfl rfl rfl rfl rfl (AO.idx_list h9 rfl rfl rfl rfl es_23 rfl rfl (cs 2 rfl ?_))
     obtain ⟨x1, h10, h8⟩ := bind1_inv h8
     refine AR.go rfl rfl rfl rfl rfl rfl (AO.call rfl _ rfl rfl pf_30 (c_ident_Compare _ _ h10 (cs 1 rfl ?_)))
     obtain rfl := Option.some.inj h8
     refine cs 1 rfl (AR.nil [41, 1, 13, 14, 15, 28] rfl ?_)
     exact ⟨rfl, rfl, rfl, rfl⟩
    ·
     replace h8 := ite_F h7 h8
     refine AR.is 31 h7 rfl ?_
     obtain rfl := Option.some.inj h8
     refine cs 10 rfl (AR.nil [41, 1, 13, 14, 15, 28] rfl ?_)
     exact ⟨rfl, rfl, rfl, rfl⟩
    obtain rfl := Option.some.inj h6
    refine cs 1 rfl (AR.nil [42, 1, 13, 14, 15] rfl ?_)
    exact ⟨rfl, rfl, rfl, rfl⟩
   ·
    replace h6 := ite_T h5 h6
    refine AR.is 28 h5 rfl ?_
    obtain rfl := Option.some.inj h6
    refine cs 14 rfl (AR.nil [42, 1, 13, 14, 15] rfl ?_)
    exact ⟨rfl, rfl, rfl, rfl⟩
   refine AR.nil [1, 13, 14, 15, 42] rfl (AW.cond rfl (fun h11 => ?_) (fun h11 => ?_))
   ·
    replace hf := ite_T h11 hf
    refine AW.sr (cs 1 rfl (AR.nil [2] rfl (AW.ret ?_)))
    cases hf
    exact ⟨rfl, _, ⟨_, _, rfl, rfl, rfl⟩, [], List.nil_sublist _, h⟩
   ·
    replace hf := ite_F h11 hf
    refine AW.skip (AW.region (cs 2 rfl (AR.nil [1, 13, 14, 15] rfl ?_)))
    exact ⟨(w64 (i1 + 1)), rfl, rfl, rfl, hf⟩
  ·
   replace hf := ite_F h2 hf
   refine AW.exit (AW.sr (cs 1 rfl (AR.nil [2] rfl ?_)))
   refine AW.ret ?_
   cases hf
   exact ⟨rfl, _, ⟨_, _, rfl, rfl, rfl⟩, [], List.nil_sublist _, h⟩

theorem c_value_node  (v1 : ApiValue) (level1 : Int) {r0 : Int} (hf : value_node v1 level1 = some r0) {τ : List Res} {Q : AOut → List Res → Prop} (h : Q (.ret (.int .i64 r0)) τ) : AC Tryz.prog 110 [.agg [.int .i64 v1.kind, .bool v1.bool_, .int .i64 v1.int_, .str v1.str_, .list (ApiValue.cellsL v1.list_), .list (List.map strC v1.keys)], .int .i64 level1] τ Q := by
 unfold value_node at hf
 refine AC.none (AC.of_body 78 [.tmp 4] [0, 1] Tryz.func110 rfl rfl rfl rfl rfl (AW.sr (AR.step rfl rfl rfl (AO.box_ref rfl rfl rfl ?_))))
 refine cs 1 rfl (AR.nil [1, 2] rfl (AW.sr (cs 4 rfl ?_)))
 refine AR.or 4 9 13 [1, 2] (x := (v1.kind == 5)) rfl rfl (fun h1 => ?_) (fun h1 => ?_) ?_
 ·
  refine AR.is 9 h1 rfl (cs 4 rfl (AR.nil [13, 1, 2] rfl ?_))
  exact ⟨rfl, rfl, rfl, rfl⟩
 ·
  refine AR.is 9 h1 rfl (cs 4 rfl (AR.nil [13, 1, 2] rfl ?_))
  exact ⟨rfl, rfl, rfl, rfl⟩
 refine cs 1 rfl (AR.nil [1, 2, 5] rfl (AW.seq (AW.block ?_)))
 refine AW.sr (cs 3 rfl (AR.nil [1, 2, 5, 14] rfl (AW.cond rfl (fun h2 => ?_) (fun h2 => ?_))))
 ·
  replace hf := ite_T h2 hf
  refine AW.sr (cs 1 rfl (AR.nil [4] rfl (AW.ret ?_)))
  cases hf
  exact ⟨rfl, _, ⟨_, _, rfl, rfl, rfl⟩, [], List.nil_sublist _, h⟩
 ·
  replace hf := ite_F h2 hf
  refine AW.sr (cs 4 rfl (AR.or 4 21 25 [1, 2, 5] (x := (decide (5 < v1.kind))) rfl rfl (fun h3 => ?_) (fun h3 => ?_) ?_))
  ·
   refine AR.is 21 h3 rfl (cs 4 rfl (AR.nil [25, 1, 2, 5] rfl ?_))
   exact ⟨rfl, rfl, rfl, rfl⟩
  ·
   refine AR.is 21 h3 rfl (cs 4 rfl (AR.nil [25, 1, 2, 5] rfl ?_))
   exact ⟨rfl, rfl, rfl, rfl⟩
  refine cs 1 rfl ?_
  obtain ⟨b1, h5, hf⟩ := bind1_inv hf
  refine AR.join1 4 26 30 false [1, 2, 5] b1 rfl rfl (fun h4 => ?_) (fun h4 => ?_) ?_
  ·
   replace h5 := ite_F h4 h5
   refine AR.is 26 h4 rfl (cs 1 rfl ?_)
   obtain ⟨x1, h6, h5⟩ := bind1_inv h5
   refine AR.go rfl rfl rfl rfl rfl rfl (AO.call rfl _ rfl rfl pf_136 (c_value_unused _ h6 (cs 1 rfl ?_)))
   obtain rfl := Option.some.inj h5
   refine cs 1 rfl (AR.nil [30, 1, 2, 5] rfl ?_)
   exact ⟨rfl, rfl, rfl, rfl⟩
  ·
   replace h5 := ite_T h4 h5
   refine AR.is 26 h4 rfl ?_
   obtain rfl := Option.some.inj h5
   refine cs 4 rfl (AR.nil [30, 1, 2, 5] rfl ?_)
   exact ⟨rfl, rfl, rfl, rfl⟩
  refine cs 1 rfl (AR.nil [1, 2, 5, 17] rfl (AW.cond rfl (fun h7 => ?_) (fun h7 => ?_)))
  ·
   replace hf := ite_T h7 hf
   refine AW.sr (cs 1 rfl (AR.nil [4] rfl (AW.ret ?_)))
   cases hf
   exact ⟨rfl, _, ⟨_, _, rfl, rfl, rfl⟩, [], List.nil_sublist _, h⟩
  ·
   replace hf := ite_F h7 hf
   refine AW.sr (cs 4 rfl (AR.or 4 35 39 [1, 2, 5] (x := (decide (9007199254740992 < v1.int_))) rfl rfl (fun h8 => ?_) (fun h8 => ?_) ?_))
   ·
    refine AR.is 35 h8 rfl (cs 4 rfl (AR.nil [39, 1, 2, 5] rfl ?_))
    exact ⟨rfl, rfl, rfl, rfl⟩
   ·
    refine AR.is 35 h8 rfl (cs 4 rfl (AR.nil [39, 1, 2, 5] rfl ?_))
    exact ⟨rfl, rfl, rfl, rfl⟩
   refine cs 1 rfl (AR.nil [1, 2, 5, 31] rfl (AW.cond rfl (fun h9 => ?_) (fun h9 => ?_)))
   ·
    replace hf := ite_T h9 hf
    refine AW.sr (cs 1 rfl (AR.nil [4] rfl (AW.ret ?_)))
    cases hf
    exact ⟨rfl, _, ⟨_, _, rfl, rfl, rfl⟩, [], List.nil_sublist _, h⟩
   ·
    replace hf := ite_F h9 hf
    refine AW.sr (cs 2 rfl (AR.step rfl rfl rfl (AO.len_str rfl rfl rfl rfl un_9 rfl (cs 2 rfl ?_))))
    refine AR.or 5 45 50 [1, 2, 5] (x := (decide (1024 < (v1.list_.length : Int)))) rfl rfl (fun h10 => ?_) (fun h10 => ?_) ?_
    ·
     refine AR.is 45 h10 rfl (cs 2 rfl (AR.go rfl rfl rfl rfl rfl rfl (AO.len_list (l := v1.list_) rfl rfl rfl rfl es_22 rfl (ApiValue.cellsL_eq _) (cs 2 rfl ?_))))
     refine AR.nil [50, 1, 2, 5] rfl ?_
     exact ⟨rfl, rfl, rfl, rfl⟩
    ·
     refine AR.is 45 h10 rfl (cs 5 rfl (AR.nil [50, 1, 2, 5] rfl ?_))
     exact ⟨rfl, rfl, rfl, rfl⟩
    refine cs 1 rfl (AR.or 5 51 56 [1, 2, 5] (x := (decide (1024 < (v1.keys.length : Int)))) rfl rfl (fun h11 => ?_) (fun h11 => ?_) ?_)
    ·
     refine AR.is 51 h11 rfl (cs 2 rfl (AR.go rfl rfl rfl rfl rfl rfl (AO.len_list (l := v1.keys) rfl rfl rfl rfl es_23 rfl rfl (cs 2 rfl ?_))))
     refine AR.nil [56, 1, 2, 5] rfl ?_
     exact ⟨rfl, rfl, rfl, rfl⟩
    ·
     refine AR.is 51 h11 rfl (cs 5 rfl (AR.nil [56, 1, 2, 5] rfl ?_))
     exact ⟨rfl, rfl, rfl, rfl⟩
    refine cs 1 rfl (AR.nil [1, 2, 5, 40] rfl (AW.cond rfl (fun h12 => ?_) (fun h12 => ?_)))
    ·
     replace hf := ite_T h12 hf
     refine AW.sr (cs 1 rfl (AR.nil [4] rfl (AW.ret ?_)))
     cases hf
     exact ⟨rfl, _, ⟨_, _, rfl, rfl, rfl⟩, [], List.nil_sublist _, h⟩
    ·
     replace hf := ite_F h12 hf
     refine AW.sr (cs 4 rfl ?_)
     obtain ⟨b2, h14, hf⟩ := bind1_inv hf
     refine AR.join1 4 61 65 true [1, 2, 5] b2 rfl rfl (fun h13 => ?_) (fun h13 => ?_) ?_
     ·
      replace h14 := ite_T h13 h14
      refine AR.is 61 h13 rfl (cs 1 rfl ?_)
      obtain ⟨x2, h15, h14⟩ := bind1_inv h14
      refine AR.go rfl rfl rfl rfl rfl rfl (AO.call rfl _ rfl rfl pf_137 (c_value_keyed _ h15 (cs 1 rfl ?_)))
      obtain rfl := Option.some.inj h14
      refine cs 1 rfl (AR.nil [65, 1, 2, 5] rfl ?_)
      exact ⟨rfl, rfl, rfl, rfl⟩
     ·
      replace h14 := ite_F h13 h14
      refine AR.is 61 h13 rfl ?_
      obtain rfl := Option.some.inj h14
      refine cs 4 rfl (AR.nil [65, 1, 2, 5] rfl ?_)
      exact ⟨rfl, rfl, rfl, rfl⟩
     refine cs 1 rfl (AR.nil [1, 2, 5, 57] rfl (AW.cond rfl (fun h16 => ?_) (fun h16 => ?_)))
     ·
      replace hf := ite_T h16 hf
      refine AW.sr (cs 1 rfl (AR.nil [4] rfl (AW.ret ?_)))
      cases hf
      exact ⟨rfl, _, ⟨_, _, rfl, rfl, rfl⟩, [], List.nil_sublist _, h⟩
     ·
      replace hf := ite_F h16 hf
      refine AW.sr (cs 2 rfl (AR.and 5 68 73 [1] (x := ((v1.list_.length : Int) == 0)) rfl rfl (fun h17 => ?_) (fun h17 => ?_) ?_))
      ·
       refine AR.is 68 h17 rfl (cs 2 rfl (AR.go rfl rfl rfl rfl rfl rfl (AO.len_list (l := v1.list_) rfl rfl rfl rfl es_22 rfl (ApiValue.cellsL_eq _) (cs 2 rfl ?_))))
       refine AR.nil [73, 1] rfl ?_
       exact ⟨rfl, rfl, rfl, rfl⟩
      ·
       refine AR.is 68 h17 rfl (cs 5 rfl (AR.nil [73, 1] rfl ?_))
       exact ⟨rfl, rfl, rfl, rfl⟩
      refine cs 1 rfl (AR.and 3 74 77 [] (x := (level1 == 16)) rfl rfl (fun h18 => ?_) (fun h18 => ?_) ?_)
      ·
       refine AR.is 74 h18 rfl (cs 3 rfl (AR.nil [77] rfl ?_))
       exact ⟨rfl, rfl, rfl, rfl⟩
      ·
       refine AR.is 74 h18 rfl (cs 3 rfl (AR.nil [77] rfl ?_))
       exact ⟨rfl, rfl, rfl, rfl⟩
      refine cs 1 rfl (AR.nil [66] rfl (AW.cond rfl (fun h19 => ?_) (fun h19 => ?_)))
      ·
       replace hf := ite_T h19 hf
       refine AW.sr (cs 1 rfl (AR.nil [4] rfl (AW.ret ?_)))
       cases hf
       exact ⟨rfl, _, ⟨_, _, rfl, rfl, rfl⟩, [], List.nil_sublist _, h⟩
      ·
       replace hf := ite_F h19 hf
       refine AW.skip (AW.sr (cs 1 rfl (AR.nil [4] rfl ?_)))
       refine AW.ret ?_
       cases hf
       exact ⟨rfl, _, ⟨_, _, rfl, rfl, rfl⟩, [], List.nil_sublist _, h⟩

theorem c_value_Valid (v1 : ApiValue) {r0 : Int} (hf : value_Valid v1 = some r0) {τ : List Res} {Q : AOut → List Res → Prop} (h : Q (.ret (.int .i64 r0)) τ) : AC Tryz.prog 72 [.agg [.int .i64 v1.kind, .bool v1.bool_, .int .i64 v1.int_, .str v1.str_, .list (ApiValue.cellsL v1.list_), .list (List.map strC v1.keys)]] τ Q := by
 unfold value_Valid at hf
 refine AC.none (AC.of_body_marks 16 [.cell 2 33] [0] Tryz.func72 rfl rfl rfl rfl rfl ?_)
 obtain ⟨b1, s1, h1, hf⟩ := bind2_inv hf
 cases hf
 refine AW.sr (AR.step rfl rfl rfl (AO.box_ref rfl rfl rfl (AR.step rfl rfl rfl (AO.alloc_own rfl zp_33 (fun b2 => (AR.nil [1, 2] rfl ?_))))))
 refine AW.seq (AW.sr (cs 1 rfl (AR.step rfl rfl rfl (AO.call rfl _ rfl rfl pf_109 (c_value_nodes _ _ ?_)))))
 refine AR.nil [2, 7] rfl (AW.block (AW.rangeFunc (β := Option Int) (X := Int × ApiValue) rfl pf_134 (fun x => [.int .i64 x.1, .agg [.int .i64 x.2.kind, .bool x.2.bool_, .int .i64 x.2.int_, .str x.2.str_, .list (ApiValue.cellsL x.2.list_), .list (List.map strC x.2.keys)]]) (fun _ => rfl) (by decide) (fun s x => value_Valid_y s x.1 x.2) (fun s => [.box b2 [.int .i64 (s.getD 0)]]) (fun s => s.map fun _ => .ret) (s0 := none) (s1 := s1) rfl rfl ?_ ?_ ?_))
 ·
  intro l T' hy
  refine c_value_nodes_1 l T' value_Valid_y (fun s1 level1 v1 b s2 hh => hy s1 (level1, v1) b s2 hh) none v1 1 h1 ⟨⟨_, rfl⟩, rfl⟩
 ·
  rintro l s ⟨level1, x1⟩ b s2 hh
  unfold value_Valid_y at hh
  cases s with
  | some e => cases hh
  | none =>
  refine ⟨rfl, ?_⟩
  obtain ⟨e1, h2, hh⟩ := bind1_inv hh
  refine AWI.seq (AWI.region rfl (cs 1 rfl (AR.nil [2, 3, 9] rfl ?_)))
  refine AWI.region rfl (AR.step rfl rfl rfl (AO.alloc_own rfl zp_25 (fun b4 => (AR.step_none rfl rfl (AO.store_box (i := 0) rfl rfl rfl ti_25 rfl rfl rfl rfl rfl (AR.nil [2, 3, 4] rfl ?_))))))
  refine ⟨rfl, (AWI.block (AWI.seq (AWI.region rfl ?_)))⟩
  refine AR.step rfl rfl rfl (AO.load_box (i := 0) rfl rfl rfl ti_25 rfl rfl (cs 1 rfl (AR.step rfl rfl rfl (AO.call rfl _ rfl rfl pf_110 (c_value_node _ _ h2 (cs 1 rfl ?_))))))
  refine AR.nil [2, 5] rfl (AWI.seq (AWI.region rfl (cs 2 rfl ?_)))
  refine AR.nil [2, 5, 14] rfl (AWI.cond rfl (fun h3 => ?_) (fun h3 => ?_))
  ·
   replace hh := ite_T h3 hh
   cases hh
   refine AWI.seq (AWI.region rfl (cs 1 rfl (AR.step_none rfl rfl (AO.store_box (i := 1) rfl rfl rfl ti_33 rfl rfl rfl rfl rfl ?_))))
   refine AR.nil [] rfl (AWI.ret ?_)
   exact ⟨rfl, .cons _ (List.Sublist.refl _), rfl, rfl⟩
  ·
   replace hh := ite_F h3 hh
   cases hh
   refine AWI.skip ?_
   exact ⟨rfl, .cons _ (List.Sublist.refl _), rfl, rfl⟩
 ·
  intro D
  cases s1 with
  | some e => exact ⟨D, _, rfl, rfl, _, ⟨_, _, rfl, ⟨_, _, 0, _, _, rfl, rfl, ti_33, rfl⟩, rfl⟩, [], List.nil_sublist _, h⟩
  | none =>
   show AW _ _ _ _ _ _ _
   refine AW.sr (AR.step_none rfl rfl (AO.store_box (i := 0) rfl rfl rfl ti_33 rfl rfl rfl rfl rfl (AR.nil [2] rfl (AW.ret ?_))))
   exact ⟨D, [_], rfl, rfl, _, ⟨_, _, rfl, ⟨_, _, 0, _, _, rfl, rfl, ti_33, rfl⟩, rfl⟩, [], List.nil_sublist _, h⟩

theorem c_parser_repeated  (l1 : List Str) {r0 : Bool} (hf : parser_repeated l1 = some r0) {τ : List Res} {Q : AOut → List Res → Prop} (h : Q (.ret (.bool r0)) τ) : AC Tryz.prog 108 [.list (List.map strC l1)] τ Q := by
 unfold parser_repeated at hf
 refine AC.none (AC.of_body 22 [.tmp 2] [0] Tryz.func108 rfl rfl rfl rfl rfl (AW.sr (cs 1 rfl ?_)))
 refine AR.nil [0] rfl (AW.sr (AR.step rfl rfl rfl (AO.makeMapF rfl (fun m6 => (cs 1 rfl ?_)))))
 refine AR.nil [0, 3] rfl (AW.seq (AW.sr (cs 1 rfl ?_)))
 refine AR.step rfl rfl rfl (AO.len_list (l := l1) rfl rfl rfl rfl es_23 rfl rfl (cs 1 rfl (AR.nil [3, 7, 8, 9] rfl (AW.block ?_))))
 refine AW.settle [3, 7, 8, 9] rfl (AW.loopF2 (fun x1 y1 => [(3, .val (.map (some m6))), (7, .list (List.map strC l1)), (8, .int .i64 (l1.length : Int)), (9, .int .i64 x1)]) (fun x1 y1 => [.obj m6 (mapObj y1)]) (fun kk1 x1 y1 => parser_repeated_l1 l1 kk1 x1 y1 = some r0) BIG 0 [] rfl rfl hf (fun _ _ hz => none_no hz) ?_)
 intro kk1 x1 y1 hf
 rw [parser_repeated_l1] at hf
 refine AW.sr (cs 1 rfl (AR.nil [3, 7, 8, 9, 10] rfl (AW.seq ?_)))
 refine AW.cond rfl (fun h1 => ?_) (fun h1 => ?_)
 ·
  replace hf := ite_T h1 hf
  refine AW.skip (AW.seq (AW.block (AW.sr ?_)))
  obtain ⟨s1, h2, hf⟩ := bind1_inv hf
  refine AR.step rfl rfl rfl (AO.idx_list h2 rfl rfl rfl rfl es_23 rfl rfl (cs 2 rfl (AR.nil [3, 5, 7, 8, 9] rfl (AW.sr ?_))))
  refine cs 2 rfl (AR.step rfl rfl rfl (AO.lookupF (i := 0) (l := y1) rfl rfl rfl rfl mp_52 un_9 zi_3 (cs 1 rfl (AR.step_none rfl rfl (AO.mapUpdateF (i := 0) (l := y1) rfl rfl rfl rfl rfl mp_52 un_9 ?_)))))
  refine AR.nil [3, 5, 7, 8, 9] rfl (AW.sr (cs 2 rfl (AR.step rfl rfl rfl (AO.lookupF (i := 0) (l := (mset y1 s1 (w64 ((mget y1 s1) + 1)))) rfl rfl rfl rfl mp_52 un_9 zi_3 ?_))))
  refine cs 1 rfl (AR.nil [3, 7, 8, 9, 20] rfl (AW.cond rfl (fun h3 => ?_) (fun h3 => ?_)))
  ·
   replace hf := ite_T h3 hf
   refine AW.sr (cs 1 rfl (AR.nil [2] rfl (AW.ret ?_)))
   cases hf
   exact ⟨rfl, _, ⟨_, _, rfl, rfl, rfl⟩, [], List.nil_sublist _, h⟩
  ·
   replace hf := ite_F h3 hf
   refine AW.skip (AW.region (cs 2 rfl (AR.nil [3, 7, 8, 9] rfl ?_)))
   exact ⟨(w64 (x1 + 1)), (mset y1 s1 (w64 ((mget y1 s1) + 1))), rfl, rfl, rfl, hf⟩
 ·
  replace hf := ite_F h1 hf
  refine AW.exit (AW.sr (cs 1 rfl (AR.nil [2] rfl ?_)))
  refine AW.ret ?_
  cases hf
  exact ⟨rfl, _, ⟨_, _, rfl, rfl, rfl⟩, [], List.nil_sublist _, h⟩

theorem c_parser_node  (e1 : ApiExpr) (level1 : Int) {r0 : Int} (hf : parser_node e1 level1 = some r0) {τ : List Res} {Q : AOut → List Res → Prop} (h : Q (.ret (.int .i64 r0)) τ) : AC Tryz.prog 66 [.agg [.int .i64 e1.kind, .str e1.name, .int .i64 e1.value.kind, .bool e1.value.bool_, .int .i64 e1.value.int_, .str e1.value.str_, .list (ApiValue.cellsL e1.value.list_), .list (List.map strC e1.value.keys), .list (ApiExpr.cellsL e1.args), .list (List.map strC e1.keys)], .int .i64 level1] τ Q := by
 unfold parser_node at hf
 refine AC.none (AC.of_body 65 [.tmp 4] [0, 1] Tryz.func66 rfl rfl rfl rfl rfl (AW.sr (AR.step rfl rfl rfl (AO.box_ref rfl rfl rfl ?_))))
 refine cs 1 rfl (AR.nil [1, 2] rfl (AW.seq (AW.block ?_)))
 refine AW.sr (cs 3 rfl (AR.nil [2, 5] rfl (AW.cond rfl (fun h1 => ?_) (fun h1 => ?_))))
 ·
  replace hf := ite_T h1 hf
  refine AW.sr (cs 1 rfl (AR.nil [4] rfl (AW.ret ?_)))
  cases hf
  exact ⟨rfl, _, ⟨_, _, rfl, rfl, rfl⟩, [], List.nil_sublist _, h⟩
 ·
  replace hf := ite_F h1 hf
  refine AW.sr (cs 4 rfl (AR.or 4 12 16 [2] (x := (decide (10 < e1.kind))) rfl rfl (fun h2 => ?_) (fun h2 => ?_) ?_))
  ·
   refine AR.is 12 h2 rfl (cs 4 rfl (AR.nil [16, 2] rfl ?_))
   exact ⟨rfl, rfl, rfl, rfl⟩
  ·
   refine AR.is 12 h2 rfl (cs 4 rfl (AR.nil [16, 2] rfl ?_))
   exact ⟨rfl, rfl, rfl, rfl⟩
  refine cs 1 rfl ?_
  obtain ⟨b1, h4, hf⟩ := bind1_inv hf
  refine AR.join1 10 17 27 false [2] b1 rfl rfl (fun h3 => ?_) (fun h3 => ?_) ?_
  ·
   replace h4 := ite_F h3 h4
   refine AR.is 17 h3 rfl (cs 4 rfl ?_)
   replace h4 := (bind1_ret _).trans h4
   obtain ⟨b2, h6, h4⟩ := bind1_inv h4
   refine AR.join1 5 21 26 true [2, 17] b2 rfl rfl (fun h5 => ?_) (fun h5 => ?_) ?_
   ·
    replace h6 := ite_T h5 h6
    refine AR.is 21 h5 rfl (cs 2 rfl ?_)
    obtain ⟨x1, h7, h6⟩ := bind1_inv h6
    refine AR.go rfl rfl rfl rfl rfl rfl (AO.call rfl _ rfl rfl pf_104 (c_parser_zero _ h7 (cs 1 rfl ?_)))
    obtain rfl := Option.some.inj h6
    refine cs 1 rfl (AR.nil [26, 2, 17] rfl ?_)
    exact ⟨rfl, rfl, rfl, rfl⟩
   ·
    replace h6 := ite_F h5 h6
    refine AR.is 21 h5 rfl ?_
    obtain rfl := Option.some.inj h6
    refine cs 5 rfl (AR.nil [26, 2, 17] rfl ?_)
    exact ⟨rfl, rfl, rfl, rfl⟩
   obtain rfl := Option.some.inj h4
   refine cs 1 rfl (AR.nil [27, 2] rfl ?_)
   exact ⟨rfl, rfl, rfl, rfl⟩
  ·
   replace h4 := ite_T h3 h4
   refine AR.is 17 h3 rfl ?_
   obtain rfl := Option.some.inj h4
   refine cs 10 rfl (AR.nil [27, 2] rfl ?_)
   exact ⟨rfl, rfl, rfl, rfl⟩
  refine cs 1 rfl ?_
  obtain ⟨b3, h9, hf⟩ := bind1_inv hf
  refine AR.join1 4 28 32 false [2] b3 rfl rfl (fun h8 => ?_) (fun h8 => ?_) ?_
  ·
   replace h9 := ite_F h8 h9
   refine AR.is 28 h8 rfl (cs 1 rfl ?_)
   obtain ⟨x2, h10, h9⟩ := bind1_inv h9
   refine AR.go rfl rfl rfl rfl rfl rfl (AO.call rfl _ rfl rfl pf_105 (c_parser_named _ h10 (cs 1 rfl ?_)))
   obtain rfl := Option.some.inj h9
   refine cs 1 rfl (AR.nil [32, 2] rfl ?_)
   exact ⟨rfl, rfl, rfl, rfl⟩
  ·
   replace h9 := ite_T h8 h9
   refine AR.is 28 h8 rfl ?_
   obtain rfl := Option.some.inj h9
   refine cs 4 rfl (AR.nil [32, 2] rfl ?_)
   exact ⟨rfl, rfl, rfl, rfl⟩
  refine cs 1 rfl ?_
  obtain ⟨b4, h12, hf⟩ := bind1_inv hf
  refine AR.join1 4 33 37 false [2] b4 rfl rfl (fun h11 => ?_) (fun h11 => ?_) ?_
  ·
   replace h12 := ite_F h11 h12
   refine AR.is 33 h11 rfl (cs 1 rfl ?_)
   obtain ⟨x3, h13, h12⟩ := bind1_inv h12
   refine AR.go rfl rfl rfl rfl rfl rfl (AO.call rfl _ rfl rfl pf_106 (c_parser_arity _ h13 (cs 1 rfl ?_)))
   obtain rfl := Option.some.inj h12
   refine cs 1 rfl (AR.nil [37, 2] rfl ?_)
   exact ⟨rfl, rfl, rfl, rfl⟩
  ·
   replace h12 := ite_T h11 h12
   refine AR.is 33 h11 rfl ?_
   obtain rfl := Option.some.inj h12
   refine cs 4 rfl (AR.nil [37, 2] rfl ?_)
   exact ⟨rfl, rfl, rfl, rfl⟩
  refine cs 1 rfl ?_
  obtain ⟨b5, h15, hf⟩ := bind1_inv hf
  refine AR.join1 4 38 42 false [2] b5 rfl rfl (fun h14 => ?_) (fun h14 => ?_) ?_
  ·
   replace h15 := ite_F h14 h15
   refine AR.is 38 h14 rfl (cs 1 rfl ?_)
   obtain ⟨x4, h16, h15⟩ := bind1_inv h15
   refine AR.go rfl rfl rfl rfl rfl rfl (AO.call rfl _ rfl rfl pf_107 (c_parser_keyed _ h16 (cs 1 rfl ?_)))
   obtain rfl := Option.some.inj h15
   refine cs 1 rfl (AR.nil [42, 2] rfl ?_)
   exact ⟨rfl, rfl, rfl, rfl⟩
  ·
   replace h15 := ite_T h14 h15
   refine AR.is 38 h14 rfl ?_
   obtain rfl := Option.some.inj h15
   refine cs 4 rfl (AR.nil [42, 2] rfl ?_)
   exact ⟨rfl, rfl, rfl, rfl⟩
  refine cs 1 rfl (AR.nil [2, 8] rfl (AW.cond rfl (fun h17 => ?_) (fun h17 => ?_)))
  ·
   replace hf := ite_T h17 hf
   refine AW.sr (cs 1 rfl (AR.nil [4] rfl (AW.ret ?_)))
   cases hf
   exact ⟨rfl, _, ⟨_, _, rfl, rfl, rfl⟩, [], List.nil_sublist _, h⟩
  ·
   replace hf := ite_F h17 hf
   refine AW.sr (cs 4 rfl ?_)
   obtain ⟨b6, h19, hf⟩ := bind1_inv hf
   refine AR.join1 5 47 52 true [2] b6 rfl rfl (fun h18 => ?_) (fun h18 => ?_) ?_
   ·
    replace h19 := ite_T h18 h19
    refine AR.is 47 h18 rfl (cs 2 rfl ?_)
    obtain ⟨x5, h20, h19⟩ := bind1_inv h19
    refine AR.go rfl rfl rfl rfl rfl rfl (AO.call rfl _ rfl rfl pf_72 (c_value_Valid _ h20 (cs 1 rfl ?_)))
    obtain rfl := Option.some.inj h19
    refine cs 1 rfl (AR.nil [52, 2] rfl ?_)
    exact ⟨rfl, rfl, rfl, rfl⟩
   ·
    replace h19 := ite_F h18 h19
    refine AR.is 47 h18 rfl ?_
    obtain rfl := Option.some.inj h19
    refine cs 5 rfl (AR.nil [52, 2] rfl ?_)
    exact ⟨rfl, rfl, rfl, rfl⟩
   refine cs 1 rfl (AR.nil [2, 43] rfl (AW.cond rfl (fun h21 => ?_) (fun h21 => ?_)))
   ·
    replace hf := ite_T h21 hf
    refine AW.sr (cs 2 rfl ?_)
    replace hf := (bind1_ret _).trans hf
    obtain ⟨x6, h22, hf⟩ := bind1_inv hf
    refine AR.step rfl rfl rfl (AO.call rfl _ rfl rfl pf_72 (c_value_Valid _ h22 (cs 1 rfl (AR.nil [4] rfl (AW.ret ?_)))))
    cases hf
    exact ⟨rfl, _, ⟨_, _, rfl, rfl, rfl⟩, [], List.nil_sublist _, h⟩
   ·
    replace hf := ite_F h21 hf
    refine AW.sr (cs 2 rfl (AR.step rfl rfl rfl (AO.len_list (l := e1.args) rfl rfl rfl rfl es_26 rfl (ApiExpr.cellsL_eq _) (cs 2 rfl ?_))))
    refine AR.nil [2, 56] rfl (AW.cond rfl (fun h23 => ?_) (fun h23 => ?_))
    ·
     replace hf := ite_T h23 hf
     refine AW.sr (cs 1 rfl (AR.nil [4] rfl (AW.ret ?_)))
     cases hf
     exact ⟨rfl, _, ⟨_, _, rfl, rfl, rfl⟩, [], List.nil_sublist _, h⟩
    ·
     replace hf := ite_F h23 hf
     refine AW.sr (cs 2 rfl ?_)
     obtain ⟨x7, h24, hf⟩ := bind1_inv hf
     refine AR.step rfl rfl rfl (AO.call rfl _ rfl rfl pf_108 (c_parser_repeated _ h24 (cs 1 rfl (AR.nil [61] rfl (AW.cond rfl (fun h25 => ?_) (fun h25 => ?_))))))
     ·
      replace hf := ite_T h25 hf
      refine AW.sr (cs 1 rfl (AR.nil [4] rfl (AW.ret ?_)))
      cases hf
      exact ⟨rfl, _, ⟨_, _, rfl, rfl, rfl⟩, [], List.nil_sublist _, h⟩
     ·
      replace hf := ite_F h25 hf
      refine AW.skip (AW.sr (cs 1 rfl (AR.nil [4] rfl ?_)))
      refine AW.ret ?_
      cases hf
      exact ⟨rfl, _, ⟨_, _, rfl, rfl, rfl⟩, [], List.nil_sublist _, h⟩

theorem w_parser_valid (go_parser_valid : ApiExpr → Int → Option Int) (go_parser_validH : ∀ (ue1 : ApiExpr) (ulevel1 : Int) {urr1x0 : Int}, go_parser_valid ue1 ulevel1 = some urr1x0 → ∀ {τ : List Res} {Q : AOut → List Res → Prop} (h : Q (.ret (.int .i64 urr1x0)) τ), AC Tryz.prog 35 [.agg [.int .i64 ue1.kind, .str ue1.name, .int .i64 ue1.value.kind, .bool ue1.value.bool_, .int .i64 ue1.value.int_, .str ue1.value.str_, .list (ApiValue.cellsL ue1.value.list_), .list (List.map strC ue1.value.keys), .list (ApiExpr.cellsL ue1.args), .list (List.map strC ue1.keys)], .int .i64 ulevel1] τ Q) (e1 : ApiExpr) (level1 : Int) {r0 : Int} (hf : parser_valid_b go_parser_valid e1 level1 = some r0) {τ : List Res} {Q : AOut → List Res → Prop} (h : Q (.ret (.int .i64 r0)) τ) : AC Tryz.prog 35 [.agg [.int .i64 e1.kind, .str e1.name, .int .i64 e1.value.kind, .bool e1.value.bool_, .int .i64 e1.value.int_, .str e1.value.str_, .list (ApiValue.cellsL e1.value.list_), .list (List.map strC e1.value.keys), .list (ApiExpr.cellsL e1.args), .list (List.map strC e1.keys)], .int .i64 level1] τ Q := by
 unfold parser_valid_b at hf
 refine AC.none (AC.of_body 30 [.tmp 4] [0, 1] Tryz.func35 rfl rfl rfl rfl rfl (AW.sr (AR.step rfl rfl rfl (AO.box_ref rfl rfl rfl ?_))))
 refine cs 1 rfl (AR.nil [1, 2] rfl (AW.seq (AW.sr ?_)))
 refine cs 2 rfl ?_
 obtain ⟨f1, h1, hf⟩ := bind1_inv hf
 refine AR.step rfl rfl rfl (AO.call rfl _ rfl rfl pf_66 (c_parser_node _ _ h1 (cs 1 rfl (AR.nil [1, 2, 5] rfl (AW.sr ?_)))))
 refine cs 2 rfl (AR.nil [1, 2, 5, 13] rfl (AW.cond rfl (fun h2 => ?_) (fun h2 => ?_)))
 ·
  replace hf := ite_T h2 hf
  refine AW.sr (cs 2 rfl (AR.nil [4] rfl (AW.ret ?_)))
  cases hf
  exact ⟨rfl, _, ⟨_, _, rfl, rfl, rfl⟩, [], List.nil_sublist _, h⟩
 ·
  replace hf := ite_F h2 hf
  refine AW.skip (AW.seq (AW.sr (cs 2 rfl ?_)))
  refine AR.step rfl rfl rfl (AO.len_list (l := e1.args) rfl rfl rfl rfl es_26 rfl (ApiExpr.cellsL_eq _) (cs 1 rfl (AR.nil [1, 16, 17, 18] rfl (AW.block ?_))))
  refine AW.settle [1, 16, 17, 18] rfl (AW.loopF1 (fun x1 => [(1, .int .i64 level1), (16, .list (ApiExpr.cellsL e1.args)), (17, .int .i64 (e1.args.length : Int)), (18, .int .i64 x1)]) (fun x1 => []) (fun kk1 x1 => parser_valid_l1 go_parser_valid e1 level1 kk1 x1 = some r0) BIG 0 rfl rfl hf (fun _ hz => none_no hz) ?_)
  intro kk1 x1 hf
  rw [parser_valid_l1] at hf
  refine AW.sr (cs 1 rfl (AR.nil [1, 16, 17, 18, 19] rfl (AW.seq ?_)))
  refine AW.cond rfl (fun h3 => ?_) (fun h3 => ?_)
  ·
   replace hf := ite_T h3 hf
   refine AW.skip (AW.seq (AW.block (AW.sr ?_)))
   obtain ⟨e2, h4, hf⟩ := bind1_inv hf
   refine AR.step rfl rfl rfl (AO.idx_list h4 rfl rfl (ApiExpr.cellsL_eq _) rfl es_26 (ApiExpr.cells_eq _) rfl (cs 1 rfl (AR.step rfl rfl rfl (AO.alloc_own rfl zp_28 (fun b7 => (AR.step_none rfl rfl (AO.store_box (i := 0) rfl rfl rfl ti_28 rfl rfl rfl rfl rfl ?_)))))))
   refine AR.nil [1, 7, 16, 17, 18] rfl (AW.sr (AR.step rfl rfl rfl (AO.load_box (i := 0) rfl rfl rfl ti_28 rfl rfl (cs 2 rfl ?_))))
   obtain ⟨f2, h5, hf⟩ := bind1_inv hf
   refine AR.step rfl rfl rfl (AO.call rfl _ rfl rfl pf_35 (go_parser_validH _ _ h5 (cs 1 rfl (AR.nil [1, 8, 16, 17, 18] rfl (AW.sr ?_)))))
   refine cs 2 rfl (AR.nil [1, 8, 16, 17, 18, 27] rfl (AW.cond rfl (fun h6 => ?_) (fun h6 => ?_)))
   ·
    replace hf := ite_T h6 hf
    refine AW.sr (cs 2 rfl (AR.nil [4] rfl (AW.ret ?_)))
    cases hf
    exact ⟨rfl, _, ⟨_, _, rfl, rfl, rfl⟩, [], List.nil_sublist _, h⟩
   ·
    replace hf := ite_F h6 hf
    refine AW.skip (AW.region (cs 2 rfl (AR.drop1 ?_)))
    refine AR.nil [1, 16, 17, 18] rfl ?_
    exact ⟨(w64 (x1 + 1)), rfl, rfl, rfl, hf⟩
  ·
   replace hf := ite_F h3 hf
   refine AW.exit (AW.sr (cs 1 rfl (AR.nil [4] rfl ?_)))
   refine AW.ret ?_
   cases hf
   exact ⟨rfl, _, ⟨_, _, rfl, rfl, rfl⟩, [], List.nil_sublist _, h⟩

theorem n_parser_valid : ∀ k : Nat, (∀ (ue1 : ApiExpr) (ulevel1 : Int) {urr1x0 : Int}, parser_valid_n k ue1 ulevel1 = some urr1x0 → ∀ {τ : List Res} {Q : AOut → List Res → Prop} (h : Q (.ret (.int .i64 urr1x0)) τ), AC Tryz.prog 35 [.agg [.int .i64 ue1.kind, .str ue1.name, .int .i64 ue1.value.kind, .bool ue1.value.bool_, .int .i64 ue1.value.int_, .str ue1.value.str_, .list (ApiValue.cellsL ue1.value.list_), .list (List.map strC ue1.value.keys), .list (ApiExpr.cellsL ue1.args), .list (List.map strC ue1.keys)], .int .i64 ulevel1] τ Q) := by
 intro k
 induction k with
 | zero => exact fun _ _ _ hz => by first | cases hz | (unfold parser_valid_n at hz; cases hz)
 | succ k ih => exact fun ue1 ulevel1 urr1x0 hz τ Q hq => w_parser_valid (parser_valid_n k) ih ue1 ulevel1 hz hq
theorem c_parser_valid (ue1 : ApiExpr) (ulevel1 : Int) {urr1x0 : Int} (hf : parser_valid ue1 ulevel1 = some urr1x0) {τ : List Res} {Q : AOut → List Res → Prop} (h : Q (.ret (.int .i64 urr1x0)) τ) : AC Tryz.prog 35 [.agg [.int .i64 ue1.kind, .str ue1.name, .int .i64 ue1.value.kind, .bool ue1.value.bool_, .int .i64 ue1.value.int_, .str ue1.value.str_, .list (ApiValue.cellsL ue1.value.list_), .list (List.map strC ue1.value.keys), .list (ApiExpr.cellsL ue1.args), .list (List.map strC ue1.keys)], .int .i64 ulevel1] τ Q :=
 ((n_parser_valid BIG)) ue1 ulevel1 hf h

theorem c_parser_Valid  (e1 : ApiExpr) {r0 : Int} (hf : parser_Valid e1 = some r0) {τ : List Res} {Q : AOut → List Res → Prop} (h : Q (.ret (.int .i64 r0)) τ) : AC Tryz.prog 19 [.agg [.int .i64 e1.kind, .str e1.name, .int .i64 e1.value.kind, .bool e1.value.bool_, .int .i64 e1.value.int_, .str e1.value.str_, .list (ApiValue.cellsL e1.value.list_), .list (List.map strC e1.value.keys), .list (ApiExpr.cellsL e1.args), .list (List.map strC e1.keys)]] τ Q := by
 unfold parser_Valid at hf
 refine AC.none (AC.of_body 8 [.tmp 2] [0] Tryz.func19 rfl rfl rfl rfl rfl (AW.sr (AR.step rfl rfl rfl (AO.box_ref rfl rfl rfl ?_))))
 refine cs 1 rfl (AR.nil [1] rfl (AW.seq (AW.sr ?_)))
 refine cs 1 rfl ?_
 obtain ⟨x1, h1, hf⟩ := bind1_inv hf
 refine AR.step rfl rfl rfl (AO.call rfl _ rfl rfl pf_34 (c_parser_Count _ h1 (cs 1 rfl (AR.nil [1, 5] rfl (AW.cond rfl (fun h2 => ?_) (fun h2 => ?_))))))
 ·
  replace hf := ite_T h2 hf
  refine AW.sr (cs 1 rfl (AR.nil [2] rfl (AW.ret ?_)))
  cases hf
  exact ⟨rfl, _, ⟨_, _, rfl, rfl, rfl⟩, [], List.nil_sublist _, h⟩
 ·
  replace hf := ite_F h2 hf
  refine AW.skip (AW.sr (cs 1 rfl ?_))
  replace hf := (bind1_ret _).trans hf
  obtain ⟨x2, h3, hf⟩ := bind1_inv hf
  refine AR.step rfl rfl rfl (AO.call rfl _ rfl rfl pf_35 (c_parser_valid _ _ h3 (cs 1 rfl (AR.nil [2] rfl (AW.ret ?_)))))
  cases hf
  exact ⟨rfl, _, ⟨_, _, rfl, rfl, rfl⟩, [], List.nil_sublist _, h⟩

theorem c_parser_Take  (ts1 : List ApiToken) {r0 : ApiExpr} {r1 : Int} {r2 : Int} (hf : parser_Take ts1 = some (r0, r1, r2)) {τ : List Res} {Q : AOut → List Res → Prop} (h : Q (.ret (.tuple [.agg [.int .i64 r0.kind, .str r0.name, .int .i64 r0.value.kind, .bool r0.value.bool_, .int .i64 r0.value.int_, .str r0.value.str_, .list (ApiValue.cellsL r0.value.list_), .list (List.map strC r0.value.keys), .list (ApiExpr.cellsL r0.args), .list (List.map strC r0.keys)], .int .i64 r1, .int .i64 r2])) τ) : AC Tryz.prog 54 [.list (List.map ApiToken.cells ts1)] τ Q := by
 unfold parser_Take at hf
 refine AC.none (AC.of_body 27 [.cell 2 28, .tmp 3, .tmp 4] [0] Tryz.func54 rfl rfl rfl rfl rfl (AW.sr (AR.step rfl rfl rfl (AO.alloc_own rfl zp_28 (fun b2 => ?_)))))
 refine cs 2 rfl (AR.nil [0, 2] rfl (AW.sr (cs 1 rfl ?_)))
 obtain ⟨x1, n1, code1, h1, hf⟩ := bind3_inv hf
 refine AR.step rfl rfl rfl (AO.call rfl _ rfl rfl pf_86 (c_parser_read _ h1 (cs 4 rfl (AR.step rfl rfl rfl (AO.alloc_own rfl zp_28 (fun b5 => (AR.step_none rfl rfl (AO.store_box (i := 0) rfl rfl rfl ti_28 rfl rfl rfl rfl rfl ?_))))))))
 refine cs 2 rfl (AR.nil [2, 5, 6, 7] rfl (AW.seq (AW.sr ?_)))
 refine cs 2 rfl (AR.nil [2, 5, 6, 7, 15] rfl (AW.cond rfl (fun h2 => ?_) (fun h2 => ?_)))
 ·
  replace hf := ite_T h2 hf
  refine AW.sr (AR.step rfl rfl rfl (AO.build rfl zp_28 spl_28 rfl (cs 2 rfl (AR.step_none rfl rfl (AO.store_box (i := 1) rfl rfl rfl ti_28 rfl rfl rfl rfl rfl ?_)))))
  refine cs 2 rfl (AR.nil [2, 3, 4] rfl (AW.ret ?_))
  cases hf
  exact ⟨rfl, _, ⟨_, _, rfl, ⟨_, _, 1, _, _, rfl, rfl, ti_28, rfl⟩, _, _, rfl, rfl, _, _, rfl, rfl, rfl⟩, [], List.nil_sublist _, h⟩
 ·
  replace hf := ite_F h2 hf
  refine AW.skip (AW.seq (AW.sr (AR.step rfl rfl rfl (AO.load_box (i := 0) rfl rfl rfl ti_28 rfl rfl ?_))))
  obtain ⟨code2, h3, hf⟩ := bind1_inv hf
  refine AR.step rfl rfl rfl (AO.call rfl _ rfl rfl pf_19 (c_parser_Valid _ h3 (cs 1 rfl (AR.nil [2, 5, 6, 7] rfl (AW.sr ?_)))))
  refine cs 2 rfl (AR.nil [2, 5, 6, 7, 22] rfl (AW.cond rfl (fun h4 => ?_) (fun h4 => ?_)))
  ·
   replace hf := ite_T h4 hf
   refine AW.sr (AR.step rfl rfl rfl (AO.build rfl zp_28 spl_28 rfl (cs 1 rfl (AR.step_none rfl rfl (AO.store_box (i := 1) rfl rfl rfl ti_28 rfl rfl rfl rfl rfl ?_)))))
   refine cs 2 rfl (AR.nil [2, 3, 4] rfl (AW.ret ?_))
   cases hf
   exact ⟨rfl, _, ⟨_, _, rfl, ⟨_, _, 1, _, _, rfl, rfl, ti_28, rfl⟩, _, _, rfl, rfl, _, _, rfl, rfl, rfl⟩, [], List.nil_sublist _, h⟩
  ·
   replace hf := ite_F h4 hf
   refine AW.skip (AW.sr (AR.step rfl rfl rfl (AO.load_box (i := 0) rfl rfl rfl ti_28 rfl rfl (cs 1 rfl ?_))))
   refine AR.step_none rfl rfl (AO.store_box (i := 1) rfl rfl rfl ti_28 rfl rfl rfl rfl rfl (cs 2 rfl (AR.nil [2, 3, 4] rfl (AW.ret ?_))))
   cases hf
   exact ⟨rfl, _, ⟨_, _, rfl, ⟨_, _, 1, _, _, rfl, rfl, ti_28, rfl⟩, _, _, rfl, rfl, _, _, rfl, rfl, rfl⟩, [], List.nil_sublist _, h⟩

theorem c_parser_place  (ts1 : List ApiToken) (n1 : Int) (src1 : Str) {r0 : Int} (hf : parser_place ts1 n1 src1 = some r0) {τ : List Res} {Q : AOut → List Res → Prop} (h : Q (.ret (.int .i64 r0)) τ) : AC Tryz.prog 55 [.list (List.map ApiToken.cells ts1), .int .i64 n1, .str src1] τ Q := by
 unfold parser_place at hf
 refine AC.none (AC.of_body 18 [.tmp 6] [0, 1, 2] Tryz.func55 rfl rfl rfl rfl rfl (AW.sr (cs 1 rfl ?_)))
 refine AR.nil [0, 1, 2] rfl (AW.seq (AW.sr (cs 2 rfl ?_)))
 refine AR.step rfl rfl rfl (AO.len_list (l := ts1) rfl rfl rfl rfl es_77 rfl rfl (cs 1 rfl (AR.nil [0, 1, 2, 10] rfl (AW.cond rfl (fun h1 => ?_) (fun h1 => ?_)))))
 ·
  replace hf := ite_T h1 hf
  refine AW.sr (cs 2 rfl ?_)
  obtain ⟨e1, h2, hf⟩ := bind1_inv hf
  refine AR.step rfl rfl rfl (AO.idx_list h2 rfl rfl rfl rfl es_77 (ApiToken.cells_eq _) rfl (cs 3 rfl (AR.nil [6] rfl (AW.ret ?_))))
  cases hf
  exact ⟨rfl, _, ⟨_, _, rfl, rfl, rfl⟩, [], List.nil_sublist _, h⟩
 ·
  replace hf := ite_F h1 hf
  refine AW.skip (AW.sr (cs 1 rfl (AR.step rfl rfl rfl (AO.len_str rfl rfl rfl rfl un_9 rfl ?_))))
  refine cs 1 rfl (AR.nil [6] rfl (AW.ret ?_))
  cases hf
  exact ⟨rfl, _, ⟨_, _, rfl, rfl, rfl⟩, [], List.nil_sublist _, h⟩

theorem c_parser_Parse  (src1 : Str) {r0 : ApiExpr} {r1 : Int} {r2 : Int} (hf : parser_Parse src1 = some (r0, r1, r2)) {τ : List Res} {Q : AOut → List Res → Prop} (h : Q (.ret (.tuple [.agg [.int .i64 r0.kind, .str r0.name, .int .i64 r0.value.kind, .bool r0.value.bool_, .int .i64 r0.value.int_, .str r0.value.str_, .list (ApiValue.cellsL r0.value.list_), .list (List.map strC r0.value.keys), .list (ApiExpr.cellsL r0.args), .list (List.map strC r0.keys)], .int .i64 r1, .int .i64 r2])) τ) : AC Tryz.prog 26 [.str src1] τ Q := by
 unfold parser_Parse at hf
 refine AC.none (AC.of_body 46 [.cell 2 28, .tmp 3, .tmp 4] [0] Tryz.func26 rfl rfl rfl rfl rfl (AW.sr (AR.step rfl rfl rfl (AO.alloc_own rfl zp_28 (fun b2 => ?_)))))
 refine cs 2 rfl (AR.nil [0, 2] rfl (AW.sr (cs 1 rfl ?_)))
 obtain ⟨ts1, at1, code1, h1, hf⟩ := bind3_inv hf
 refine AR.step rfl rfl rfl (AO.call rfl _ rfl rfl pf_53 (c_lexer_Tokens _ h1 (cs 7 rfl (AR.nil [0, 2, 5, 6, 7] rfl (AW.seq ?_)))))
 refine AW.sr (cs 2 rfl (AR.nil [0, 2, 5, 6, 7, 17] rfl (AW.cond rfl (fun h2 => ?_) (fun h2 => ?_))))
 ·
  replace hf := ite_T h2 hf
  refine AW.sr (AR.step rfl rfl rfl (AO.build rfl zp_28 spl_28 rfl (cs 2 rfl (AR.step_none rfl rfl (AO.store_box (i := 0) rfl rfl rfl ti_28 rfl rfl rfl rfl rfl ?_)))))
  refine cs 2 rfl (AR.nil [2, 3, 4] rfl (AW.ret ?_))
  cases hf
  exact ⟨rfl, _, ⟨_, _, rfl, ⟨_, _, 0, _, _, rfl, rfl, ti_28, rfl⟩, _, _, rfl, rfl, _, _, rfl, rfl, rfl⟩, [], List.nil_sublist _, h⟩
 ·
  replace hf := ite_F h2 hf
  refine AW.skip (AW.sr (cs 1 rfl ?_))
  obtain ⟨x1, n1, code2, h3, hf⟩ := bind3_inv hf
  refine AR.step rfl rfl rfl (AO.call rfl _ rfl rfl pf_54 (c_parser_Take _ h3 (cs 4 rfl (AR.step rfl rfl rfl (AO.alloc_own rfl zp_28 (fun b8 => (AR.step_none rfl rfl (AO.store_box (i := 0) rfl rfl rfl ti_28 rfl rfl rfl rfl rfl ?_))))))))
  refine cs 2 rfl (AR.nil [0, 2, 5, 7, 8, 9] rfl (AW.seq (AW.sr ?_)))
  refine cs 2 rfl (AR.nil [0, 2, 5, 7, 8, 9, 28] rfl (AW.cond rfl (fun h4 => ?_) (fun h4 => ?_)))
  ·
   replace hf := ite_T h4 hf
   refine AW.sr (AR.step rfl rfl rfl (AO.build rfl zp_28 spl_28 rfl (cs 3 rfl ?_)))
   obtain ⟨x2, h5, hf⟩ := bind1_inv hf
   refine AR.step rfl rfl rfl (AO.call rfl _ rfl rfl pf_55 (c_parser_place _ _ _ h5 (cs 1 rfl (AR.step_none rfl rfl (AO.store_box (i := 1) rfl rfl rfl ti_28 rfl rfl rfl rfl rfl (cs 2 rfl ?_))))))
   refine AR.nil [2, 3, 4] rfl (AW.ret ?_)
   cases hf
   exact ⟨rfl, _, ⟨_, _, rfl, ⟨_, _, 1, _, _, rfl, rfl, ti_28, rfl⟩, _, _, rfl, rfl, _, _, rfl, rfl, rfl⟩, [], List.nil_sublist _, h⟩
  ·
   replace hf := ite_F h4 hf
   refine AW.skip (AW.seq (AW.sr (cs 2 rfl ?_)))
   refine AR.step rfl rfl rfl (AO.len_list (l := ts1) rfl rfl rfl rfl es_77 rfl rfl (cs 1 rfl (AR.nil [2, 5, 8, 9, 38] rfl (AW.cond rfl (fun h6 => ?_) (fun h6 => ?_)))))
   ·
    replace hf := ite_T h6 hf
    refine AW.seq (AW.drawG 1 6 7 1 mixed (by kernel_rfl) (by kernel_rfl) (by kernel_rfl) rfl rfl rfl rfl ?_)
    refine Ev.cons rfl rfl rfl (AO.build rfl zp_28 spl_28 rfl ⟨rfl, rfl⟩) (Ev.nil ?_)
    show Ev _ _ _ _ _ _ _
    refine Ev.cs FX_ok 2 rfl ?_
    obtain ⟨e1, h7, hf⟩ := bind1_inv hf
    refine Ev.cons rfl rfl rfl (AO.idx_list h7 rfl rfl rfl rfl es_77 (ApiToken.cells_eq _) rfl ⟨rfl, rfl⟩) (Ev.cs FX_ok 2 rfl (Ev.nil (TF.step_none rfl rfl (AO.store_box (i := 0) rfl rfl rfl ti_28 rfl rfl rfl rfl rfl ?_))))
    refine TF.nil ?_
    show AR _ _ _ _ _ _ _ _
    refine cs 2 rfl (AR.nil [2, 3, 4] rfl (AW.ret ?_))
    cases hf
    exact ⟨rfl, _, ⟨_, _, rfl, ⟨_, _, 1, _, _, rfl, rfl, ti_28, rfl⟩, _, _, rfl, rfl, _, _, rfl, rfl, rfl⟩, [], List.nil_sublist _, h⟩
   ·
    replace hf := ite_F h6 hf
    refine AW.skip (AW.sr (AR.step rfl rfl rfl (AO.load_box (i := 0) rfl rfl rfl ti_28 rfl rfl (AR.step_none rfl rfl (AO.store_box (i := 1) rfl rfl rfl ti_28 rfl rfl rfl rfl rfl ?_)))))
    refine cs 2 rfl (AR.nil [2, 3, 4] rfl (AW.ret ?_))
    cases hf
    exact ⟨rfl, _, ⟨_, _, rfl, ⟨_, _, 1, _, _, rfl, rfl, ti_28, rfl⟩, _, _, rfl, rfl, _, _, rfl, rfl, rfl⟩, [], List.nil_sublist _, h⟩

theorem c_typing_name  (kind1 : Int) {r0 : Str} (hf : typing_name kind1 = some r0) {τ : List Res} {Q : AOut → List Res → Prop} (h : Q (.ret (.str r0)) τ) : AC Tryz.prog 36 [.int .i64 kind1] τ Q := by
 unfold typing_name at hf
 refine AC.none (AC.of_body 14 [.tmp 2] [0] Tryz.func36 rfl rfl rfl rfl rfl (AW.sr (cs 1 rfl ?_)))
 refine AR.nil [0] rfl (AW.sr (AR.step rfl rfl rfl (AO.build_arr rfl zp_93 ai_93 rfl (AR.step rfl rfl rfl (AO.alloc_own rfl zp_93 (fun b3 => ?_))))))
 refine AR.step_none rfl rfl (AO.store_box (i := 0) rfl rfl rfl ti_93 rfl rfl rfl rfl rfl (AR.nil [0, 3] rfl (AW.seq (AW.sr ?_))))
 refine cs 3 rfl (AR.or 3 7 10 [0, 3] (x := (decide (8 ≤ kind1))) rfl rfl (fun h1 => ?_) (fun h1 => ?_) ?_)
 ·
  refine AR.is 7 h1 rfl (cs 3 rfl (AR.nil [10, 0, 3] rfl ?_))
  exact ⟨rfl, rfl, rfl, rfl⟩
 ·
  refine AR.is 7 h1 rfl (cs 3 rfl (AR.nil [10, 0, 3] rfl ?_))
  exact ⟨rfl, rfl, rfl, rfl⟩
 refine AR.nil [0, 3, 10] rfl (AW.cond rfl (fun h2 => ?_) (fun h2 => ?_))
 ·
  replace hf := ite_T h2 hf
  refine AW.sr (cs 1 rfl (AR.nil [2] rfl (AW.ret ?_)))
  cases hf
  exact ⟨rfl, _, ⟨_, _, rfl, rfl, rfl⟩, [], List.nil_sublist _, h⟩
 ·
  replace hf := ite_F h2 hf
  refine AW.skip (AW.sr (cs 1 rfl ?_))
  replace hf := (bind1_ret _).trans hf
  obtain ⟨e1, h3, hf⟩ := bind1_inv hf
  refine AR.step rfl rfl rfl (AO.indexAddr_arrF h3 rfl ai_93 rfl rfl rfl (AR.step rfl rfl rfl (AO.load_arrF (i := 0) (fun z : Str => .str z) h3 rfl rfl rfl ti_9 rfl (cs 1 rfl (AR.nil [2] rfl ?_)))))
  refine AW.ret ?_
  cases hf
  exact ⟨rfl, _, ⟨_, _, rfl, rfl, rfl⟩, [], List.nil_sublist _, h⟩

theorem c_typing_nested  (kind1 : Int) {r0 : Bool} (hf : typing_nested kind1 = some r0) {τ : List Res} {Q : AOut → List Res → Prop} (h : Q (.ret (.bool r0)) τ) : AC Tryz.prog 37 [.int .i64 kind1] τ Q := by
 unfold typing_nested at hf
 refine AC.none (AC.of_body 9 [.tmp 2] [0] Tryz.func37 rfl rfl rfl rfl rfl (AW.sr (cs 1 rfl ?_)))
 refine AR.nil [0] rfl (AW.sr (cs 3 rfl (AR.or 3 5 8 [] (x := (kind1 == 6)) rfl rfl (fun h1 => ?_) (fun h1 => ?_) ?_)))
 ·
  refine AR.is 5 h1 rfl (cs 3 rfl (AR.nil [8] rfl ?_))
  exact ⟨rfl, rfl, rfl, rfl⟩
 ·
  refine AR.is 5 h1 rfl (cs 3 rfl (AR.nil [8] rfl ?_))
  exact ⟨rfl, rfl, rfl, rfl⟩
 refine cs 1 rfl (AR.nil [2] rfl (AW.ret ?_))
 cases hf
 exact ⟨rfl, _, ⟨_, _, rfl, rfl, rfl⟩, [], List.nil_sublist _, h⟩

theorem c_typing_Valid  (t1 : ApiType) {r0 : Int} (hf : typing_Valid t1 = some r0) {τ : List Res} {Q : AOut → List Res → Prop} (h : Q (.ret (.int .i64 r0)) τ) : AC Tryz.prog 20 [.agg [.int .i64 t1.kind, .list (ApiType.cellsL t1.elem)]] τ Q := by
 unfold typing_Valid at hf
 refine AC.none (AC.of_body 43 [.tmp 2] [0] Tryz.func20 rfl rfl rfl rfl rfl (AW.sr (AR.step rfl rfl rfl (AO.box_own rfl rfl (fun b1 => ?_)))))
 refine cs 1 rfl (AR.nil [1] rfl (AW.sr (cs 1 rfl ?_)))
 refine AR.nil [1, 3] rfl (AW.block (AW.settle [1, 3] rfl (AW.loopF2 (fun level1 t2 => [(1, .val (.pointer (some ⟨b1, 0, none⟩))), (3, .int .i64 level1)]) (fun level1 t2 => [.box b1 [.int .i64 t2.kind, .list (ApiType.cellsL t2.elem)]]) (fun kk1 level1 t2 => typing_Valid_l1 kk1 level1 t2 = some r0) BIG 1 t1 rfl rfl hf (fun _ _ hz => none_no hz) ?_)))
 intro kk1 level1 t2 hf
 rw [typing_Valid_l1] at hf
 refine AW.seq (AW.block (AW.seq (AW.sr ?_)))
 refine cs 2 rfl (AR.nil [1, 3, 7] rfl (AW.cond rfl (fun h1 => ?_) (fun h1 => ?_)))
 ·
  replace hf := ite_T h1 hf
  refine AW.sr (cs 1 rfl (AR.nil [2] rfl (AW.ret ?_)))
  cases hf
  exact ⟨rfl, _, ⟨_, _, rfl, rfl, rfl⟩, [], List.nil_sublist _, h⟩
 ·
  replace hf := ite_F h1 hf
  refine AW.skip (AW.seq (AW.sr (cs 1 rfl ?_)))
  refine AR.step rfl rfl rfl (AO.load_box (i := 0) rfl rfl rfl ti_3 rfl rfl ?_)
  obtain ⟨x1, h2, hf⟩ := bind1_inv hf
  refine AR.step rfl rfl rfl (AO.call rfl _ rfl rfl pf_36 (c_typing_name _ h2 (cs 2 rfl ?_)))
  obtain ⟨b1, h4, hf⟩ := bind1_inv hf
  refine AR.join1 10 12 22 false [1, 3] b1 rfl rfl (fun h3 => ?_) (fun h3 => ?_) ?_
  ·
   replace h4 := ite_F h3 h4
   refine AR.is 12 h3 rfl (cs 1 rfl (AR.go rfl rfl rfl rfl rfl rfl (AO.load_box (i := 0) rfl rfl rfl ti_3 rfl rfl ?_)))
   obtain ⟨x2, h5, h4⟩ := bind1_inv h4
   refine AR.go rfl rfl rfl rfl rfl rfl (AO.call rfl _ rfl rfl pf_37 (c_typing_nested _ h5 (cs 1 rfl (AR.and 5 16 21 [1, 3, 12] (x := ((t2.elem.length : Int) != 1)) rfl rfl (fun h6 => ?_) (fun h6 => ?_) ?_))))
   ·
    refine AR.is 16 h6 rfl (cs 1 rfl (AR.go rfl rfl rfl rfl rfl rfl (AO.load_box (i := 0) rfl rfl rfl ti_37 rfl rfl (AR.go rfl rfl rfl rfl rfl rfl (AO.len_list (l := t2.elem) rfl rfl rfl rfl es_37 rfl (ApiType.cellsL_eq _) ?_)))))
    refine cs 2 rfl (AR.nil [21, 1, 3, 12] rfl ?_)
    exact ⟨rfl, rfl, rfl, rfl⟩
   ·
    refine AR.is 16 h6 rfl (cs 5 rfl (AR.nil [21, 1, 3, 12] rfl ?_))
    exact ⟨rfl, rfl, rfl, rfl⟩
   obtain rfl := Option.some.inj h4
   refine cs 1 rfl (AR.nil [22, 1, 3] rfl ?_)
   exact ⟨rfl, rfl, rfl, rfl⟩
  ·
   replace h4 := ite_T h3 h4
   refine AR.is 12 h3 rfl ?_
   obtain rfl := Option.some.inj h4
   refine cs 10 rfl (AR.nil [22, 1, 3] rfl ?_)
   exact ⟨rfl, rfl, rfl, rfl⟩
  refine cs 1 rfl ?_
  obtain ⟨b2, h8, hf⟩ := bind1_inv hf
  refine AR.join1 11 23 34 false [1, 3] b2 rfl rfl (fun h7 => ?_) (fun h7 => ?_) ?_
  ·
   replace h8 := ite_F h7 h8
   refine AR.is 23 h7 rfl (cs 1 rfl (AR.go rfl rfl rfl rfl rfl rfl (AO.load_box (i := 0) rfl rfl rfl ti_3 rfl rfl ?_)))
   obtain ⟨x3, h9, h8⟩ := bind1_inv h8
   refine AR.go rfl rfl rfl rfl rfl rfl (AO.call rfl _ rfl rfl pf_37 (c_typing_nested _ h9 (cs 2 rfl (AR.and 5 28 33 [1, 3, 23] (x := ((t2.elem.length : Int) != 0)) rfl rfl (fun h10 => ?_) (fun h10 => ?_) ?_))))
   ·
    refine AR.is 28 h10 rfl (cs 1 rfl (AR.go rfl rfl rfl rfl rfl rfl (AO.load_box (i := 0) rfl rfl rfl ti_37 rfl rfl (AR.go rfl rfl rfl rfl rfl rfl (AO.len_list (l := t2.elem) rfl rfl rfl rfl es_37 rfl (ApiType.cellsL_eq _) ?_)))))
    refine cs 2 rfl (AR.nil [33, 1, 3, 23] rfl ?_)
    exact ⟨rfl, rfl, rfl, rfl⟩
   ·
    refine AR.is 28 h10 rfl (cs 5 rfl (AR.nil [33, 1, 3, 23] rfl ?_))
    exact ⟨rfl, rfl, rfl, rfl⟩
   obtain rfl := Option.some.inj h8
   refine cs 1 rfl (AR.nil [34, 1, 3] rfl ?_)
   exact ⟨rfl, rfl, rfl, rfl⟩
  ·
   replace h8 := ite_T h7 h8
   refine AR.is 23 h7 rfl ?_
   obtain rfl := Option.some.inj h8
   refine cs 11 rfl (AR.nil [34, 1, 3] rfl ?_)
   exact ⟨rfl, rfl, rfl, rfl⟩
  refine AR.nil [1, 3, 34] rfl (AW.cond rfl (fun h11 => ?_) (fun h11 => ?_))
  ·
   replace hf := ite_T h11 hf
   refine AW.sr (cs 1 rfl (AR.nil [2] rfl (AW.ret ?_)))
   cases hf
   exact ⟨rfl, _, ⟨_, _, rfl, rfl, rfl⟩, [], List.nil_sublist _, h⟩
  ·
   replace hf := ite_F h11 hf
   refine AW.skip (AW.seq (AW.sr (cs 1 rfl ?_)))
   refine AR.step rfl rfl rfl (AO.load_box (i := 0) rfl rfl rfl ti_3 rfl rfl ?_)
   obtain ⟨x4, h12, hf⟩ := bind1_inv hf
   refine AR.step rfl rfl rfl (AO.call rfl _ rfl rfl pf_37 (c_typing_nested _ h12 (cs 1 rfl (AR.nil [1, 3, 38] rfl (AW.cond rfl (fun h13 => ?_) (fun h13 => ?_))))))
   ·
    replace hf := ite_T h13 hf
    refine AW.sr (cs 1 rfl (AR.nil [2] rfl (AW.ret ?_)))
    cases hf
    exact ⟨rfl, _, ⟨_, _, rfl, rfl, rfl⟩, [], List.nil_sublist _, h⟩
   ·
    replace hf := ite_F h13 hf
    refine AW.skip (AW.region (cs 1 rfl (AR.step rfl rfl rfl (AO.load_box (i := 0) rfl rfl rfl ti_37 rfl rfl ?_))))
    obtain ⟨e1, h14, hf⟩ := bind1_inv hf
    refine AR.step rfl rfl rfl (AO.idx_list h14 rfl rfl (ApiType.cellsL_eq _) rfl es_37 (ApiType.cells_eq _) rfl (cs 1 rfl (AR.step_none rfl rfl (AO.store_box (i := 0) rfl rfl rfl ti_39 rfl rfl rfl rfl rfl (AR.nil [1, 3] rfl ?_)))))
    refine AW.region (cs 3 rfl (AR.nil [1, 3] rfl ?_))
    exact ⟨(w64 (level1 + 1)), e1, rfl, rfl, rfl, hf⟩

theorem c_check_Env  (env1 : List ApiDecl) {r0 : Int} (hf : check_Env env1 = some r0) {τ : List Res} {Q : AOut → List Res → Prop} (h : Q (.ret (.int .i64 r0)) τ) : AC Tryz.prog 9 [.list (List.map ApiDecl.cells env1)] τ Q := by
 unfold check_Env at hf
 refine AC.none (AC.of_body 39 [.tmp 2] [0] Tryz.func9 rfl rfl rfl rfl rfl (AW.sr (cs 1 rfl ?_)))
 refine AR.nil [0] rfl (AW.seq (AW.sr (cs 1 rfl ?_)))
 refine AR.step rfl rfl rfl (AO.len_list (l := env1) rfl rfl rfl rfl es_29 rfl rfl (cs 1 rfl (AR.nil [0, 9] rfl (AW.cond rfl (fun h1 => ?_) (fun h1 => ?_)))))
 ·
  replace hf := ite_T h1 hf
  refine AW.sr (cs 1 rfl (AR.nil [2] rfl (AW.ret ?_)))
  cases hf
  exact ⟨rfl, _, ⟨_, _, rfl, rfl, rfl⟩, [], List.nil_sublist _, h⟩
 ·
  replace hf := ite_F h1 hf
  refine AW.skip (AW.sr (AR.step rfl rfl rfl (AO.makeMapF rfl (fun m10 => (cs 1 rfl ?_)))))
  refine AR.nil [0, 3] rfl (AW.seq (AW.sr (cs 1 rfl ?_)))
  refine AR.step rfl rfl rfl (AO.len_list (l := env1) rfl rfl rfl rfl es_29 rfl rfl (cs 1 rfl (AR.nil [3, 11, 12, 13] rfl (AW.block ?_))))
  refine AW.settle [3, 11, 12, 13] rfl (AW.loopF2 (fun x1 y1 => [(3, .val (.map (some m10))), (11, .list (List.map ApiDecl.cells env1)), (12, .int .i64 (env1.length : Int)), (13, .int .i64 x1)]) (fun x1 y1 => [.obj m10 (mapObj y1)]) (fun kk1 x1 y1 => check_Env_l1 env1 kk1 x1 y1 = some r0) BIG 0 [] rfl rfl hf (fun _ _ hz => none_no hz) ?_)
  intro kk1 x1 y1 hf
  rw [check_Env_l1] at hf
  refine AW.sr (cs 1 rfl (AR.nil [3, 11, 12, 13, 14] rfl (AW.seq ?_)))
  refine AW.cond rfl (fun h2 => ?_) (fun h2 => ?_)
  ·
   replace hf := ite_T h2 hf
   refine AW.skip (AW.seq (AW.block (AW.sr ?_)))
   obtain ⟨e1, h3, hf⟩ := bind1_inv hf
   refine AR.step rfl rfl rfl (AO.idx_list h3 rfl rfl rfl rfl es_29 (ApiDecl.cells_eq _) rfl (cs 1 rfl (AR.step rfl rfl rfl (AO.alloc_own rfl zp_41 (fun b5 => (AR.step_none rfl rfl (AO.store_box (i := 0) rfl rfl rfl ti_41 rfl rfl rfl rfl rfl ?_)))))))
   refine AR.nil [3, 5, 11, 12, 13] rfl (AW.seq (AW.sr (cs 1 rfl ?_)))
   refine AR.step rfl rfl rfl (AO.load_box (i := 0) rfl rfl rfl ti_9 rfl rfl (AR.step rfl rfl rfl (AO.build rfl zp_28 spl_28 rfl ?_)))
   obtain ⟨x2, h4, hf⟩ := bind1_inv hf
   refine AR.step rfl rfl rfl (AO.call rfl _ rfl rfl pf_19 (c_parser_Valid _ h4 (cs 1 rfl (AR.nil [3, 5, 11, 12, 13, 21] rfl (AW.cond rfl (fun h5 => ?_) (fun h5 => ?_))))))
   ·
    replace hf := ite_T h5 hf
    refine AW.sr (cs 1 rfl (AR.nil [2] rfl (AW.ret ?_)))
    cases hf
    exact ⟨rfl, _, ⟨_, _, rfl, rfl, rfl⟩, [], List.nil_sublist _, h⟩
   ·
    replace hf := ite_F h5 hf
    refine AW.skip (AW.seq (AW.sr (cs 1 rfl ?_)))
    refine AR.step rfl rfl rfl (AO.load_box (i := 0) rfl rfl rfl ti_39 rfl rfl ?_)
    obtain ⟨e2, h6, hf⟩ := bind1_inv hf
    refine AR.step rfl rfl rfl (AO.call rfl _ rfl rfl pf_20 (c_typing_Valid _ h6 (cs 1 rfl (AR.nil [3, 5, 6, 11, 12, 13] rfl (AW.sr ?_)))))
    refine cs 2 rfl (AR.nil [3, 5, 6, 11, 12, 13, 26] rfl (AW.cond rfl (fun h7 => ?_) (fun h7 => ?_)))
    ·
     replace hf := ite_T h7 hf
     refine AW.sr (cs 2 rfl (AR.nil [2] rfl (AW.ret ?_)))
     cases hf
     exact ⟨rfl, _, ⟨_, _, rfl, rfl, rfl⟩, [], List.nil_sublist _, h⟩
    ·
     replace hf := ite_F h7 hf
     refine AW.skip (AW.sr (cs 2 rfl (AR.step rfl rfl rfl (AO.load_box (i := 0) rfl rfl rfl ti_9 rfl rfl ?_))))
     refine AR.step rfl rfl rfl (AO.lookupF (i := 1) (l := y1) rfl rfl rfl rfl mp_52 un_9 zi_3 (cs 1 rfl (AR.step_none rfl rfl (AO.mapUpdateF (i := 1) (l := y1) rfl rfl rfl rfl rfl mp_52 un_9 (AR.nil [3, 5, 11, 12, 13] rfl ?_)))))
     refine AW.sr (cs 2 rfl (AR.step rfl rfl rfl (AO.load_box (i := 0) rfl rfl rfl ti_9 rfl rfl (AR.step rfl rfl rfl (AO.lookupF (i := 1) (l := (mset y1 e1.name (w64 ((mget y1 e1.name) + 1)))) rfl rfl rfl rfl mp_52 un_9 zi_3 ?_)))))
     refine cs 1 rfl (AR.nil [3, 11, 12, 13, 37] rfl (AW.cond rfl (fun h8 => ?_) (fun h8 => ?_)))
     ·
      replace hf := ite_T h8 hf
      refine AW.sr (cs 1 rfl (AR.nil [2] rfl (AW.ret ?_)))
      cases hf
      exact ⟨rfl, _, ⟨_, _, rfl, rfl, rfl⟩, [], List.nil_sublist _, h⟩
     ·
      replace hf := ite_F h8 hf
      refine AW.skip (AW.region (cs 2 rfl (AR.drop1 ?_)))
      refine AR.nil [3, 11, 12, 13] rfl ?_
      exact ⟨(w64 (x1 + 1)), (mset y1 e1.name (w64 ((mget y1 e1.name) + 1))), rfl, rfl, rfl, hf⟩
  ·
   replace hf := ite_F h2 hf
   refine AW.exit (AW.sr (cs 1 rfl (AR.nil [2] rfl ?_)))
   refine AW.ret ?_
   cases hf
   exact ⟨rfl, _, ⟨_, _, rfl, rfl, rfl⟩, [], List.nil_sublist _, h⟩

theorem c_check_of  (kind1 : Int) {r0 : ApiType} (hf : check_of kind1 = some r0) {τ : List Res} {Q : AOut → List Res → Prop} (h : Q (.ret (.agg [.int .i64 r0.kind, .list (ApiType.cellsL r0.elem)])) τ) : AC Tryz.prog 25 [.int .i64 kind1] τ Q := by
 unfold check_of at hf
 refine AC.none (AC.of_body 5 [.cell 2 39] [0] Tryz.func25 rfl rfl rfl rfl rfl (AW.sr (AR.step rfl rfl rfl (AO.alloc_own rfl zp_39 (fun b2 => ?_)))))
 refine AR.nil [0, 2] rfl (AW.sr (cs 1 rfl (AR.step rfl rfl rfl (AO.build rfl zp_39 spl_39 rfl ?_))))
 refine AR.step_none rfl rfl (AO.store_box (i := 0) rfl rfl rfl ti_39 rfl rfl rfl rfl rfl (AR.nil [2] rfl (AW.ret ?_)))
 cases hf
 exact ⟨rfl, _, ⟨_, _, rfl, ⟨_, _, 0, _, _, rfl, rfl, ti_39, rfl⟩, rfl⟩, [], List.nil_sublist _, h⟩

theorem c_check_nested  (kind1 : Int) (elem1 : ApiType) {r0 : ApiType} (hf : check_nested kind1 elem1 = some r0) {τ : List Res} {Q : AOut → List Res → Prop} (h : Q (.ret (.agg [.int .i64 r0.kind, .list (ApiType.cellsL r0.elem)])) τ) : AC Tryz.prog 78 [.int .i64 kind1, .agg [.int .i64 elem1.kind, .list (ApiType.cellsL elem1.elem)]] τ Q := by
 unfold check_nested at hf
 refine AC.none (AC.of_body 9 [.cell 4 39] [0, 1] Tryz.func78 rfl rfl rfl rfl rfl (AW.sr (AR.step rfl rfl rfl (AO.box_ref rfl rfl rfl ?_))))
 refine AR.step rfl rfl rfl (AO.alloc_own rfl zp_39 (fun b4 => (AR.nil [0, 3, 4] rfl (AW.sr (cs 2 rfl ?_)))))
 refine AR.step rfl rfl rfl (AO.buildSliceF (ApiType.cellsL [elem1]) rfl sf_37 rfl rfl rfl (by first | rfl | simp only [List.map, ApiType.cells_eq, ApiType.cellsL]) ?_)
 refine AR.step rfl rfl rfl (AO.build rfl zp_39 spl_39 rfl (AR.step_none rfl rfl (AO.store_box (i := 0) rfl rfl rfl ti_39 rfl rfl rfl rfl rfl (AR.nil [4] rfl (AW.ret ?_)))))
 cases hf
 exact ⟨rfl, _, ⟨_, _, rfl, ⟨_, _, 0, _, _, rfl, rfl, ti_39, rfl⟩, rfl⟩, [], List.nil_sublist _, h⟩

theorem c_check_signatures  (name1 : Str) {r0 : List (List ApiType)} {r1 : ApiType} (hf : check_signatures name1 = some (r0, r1)) {τ : List Res} {Q : AOut → List Res → Prop} (h : Q (.ret (.tuple [.list (List.map ApiType.cellsLC r0), .agg [.int .i64 r1.kind, .list (ApiType.cellsL r1.elem)]])) τ) : AC Tryz.prog 70 [.str name1] τ Q := by
 unfold check_signatures at hf
 refine AC.none (AC.of_body 106 [.tmp 2, .cell 3 39] [0] Tryz.func70 rfl rfl rfl rfl rfl (AW.sr (AR.step rfl rfl rfl (AO.nil_list rfl rfl ?_))))
 refine AR.step rfl rfl rfl (AO.alloc_own rfl zp_39 (fun b3 => (AR.nil [0, 3] rfl (AW.sr ?_))))
 obtain ⟨x1, h1, hf⟩ := bind1_inv hf
 refine AR.step rfl rfl rfl (AO.call rfl _ rfl rfl pf_25 (c_check_of _ h1 ?_))
 obtain ⟨x2, h2, hf⟩ := bind1_inv hf
 refine AR.step rfl rfl rfl (AO.call rfl _ rfl rfl pf_25 (c_check_of _ h2 ?_))
 obtain ⟨x3, h3, hf⟩ := bind1_inv hf
 refine AR.step rfl rfl rfl (AO.call rfl _ rfl rfl pf_25 (c_check_of _ h3 ?_))
 obtain ⟨x4, h4, hf⟩ := bind1_inv hf
 refine AR.step rfl rfl rfl (AO.call rfl _ rfl rfl pf_25 (c_check_of _ h4 (AR.step rfl rfl rfl (AO.alloc_own rfl zp_39 (fun b4 => (AR.step rfl rfl rfl (AO.alloc_own rfl zp_39 (fun b5 => (AR.step rfl rfl rfl (AO.alloc_own rfl zp_39 (fun b6 => ?_)))))))))))
 refine AR.step rfl rfl rfl (AO.alloc_own rfl zp_39 (fun b7 => (AR.step_none rfl rfl (AO.store_box (i := 3) rfl rfl rfl ti_39 rfl rfl rfl rfl rfl (AR.step_none rfl rfl (AO.store_box (i := 2) rfl rfl rfl ti_39 rfl rfl rfl rfl rfl (AR.step_none rfl rfl (AO.store_box (i := 1) rfl rfl rfl ti_39 rfl rfl rfl rfl rfl ?_))))))))
 refine AR.step_none rfl rfl (AO.store_box (i := 0) rfl rfl rfl ti_39 rfl rfl rfl rfl rfl (AR.nil [0, 3, 4, 5, 6, 7] rfl (AW.seq (AW.drawB 6 39 [8, 9, 10] mixed (by kernel_rfl) rfl zp_39 rfl (by kernel_rfl) (by decide) ?_))))
 refine Ev.cons rfl rfl rfl (AO.load_box (i := 3) rfl rfl rfl ti_39 rfl rfl ⟨rfl, rfl⟩) ?_
 obtain ⟨x5, h5, hf⟩ := bind1_inv hf
 refine Ev.cons rfl rfl rfl (AO.call rfl _ rfl rfl pf_78 (c_check_nested _ _ h5 ⟨rfl, rfl⟩)) (Ev.cons rfl rfl rfl (AO.load_box (i := 3) rfl rfl rfl ti_39 rfl rfl ⟨rfl, rfl⟩) ?_)
 obtain ⟨x6, h6, hf⟩ := bind1_inv hf
 refine Ev.cons rfl rfl rfl (AO.call rfl _ rfl rfl pf_78 (c_check_nested _ _ h6 ⟨rfl, rfl⟩)) (Ev.cons rfl rfl rfl (AO.load_box (i := 1) rfl rfl rfl ti_39 rfl rfl ⟨rfl, rfl⟩) ?_)
 obtain ⟨x7, h7, hf⟩ := bind1_inv hf
 refine Ev.cons rfl rfl rfl (AO.call rfl _ rfl rfl pf_78 (c_check_nested _ _ h7 ⟨rfl, rfl⟩)) (Ev.nil ?_)
 intro b8 b9 b10
 show AR _ _ _ _ _ _ _ _
 refine AR.step_none rfl rfl (AO.store_box (i := 2) rfl rfl rfl ti_39 rfl rfl rfl rfl rfl (AR.step_none rfl rfl (AO.store_box (i := 1) rfl rfl rfl ti_39 rfl rfl rfl rfl rfl (AR.step_none rfl rfl (AO.store_box (i := 0) rfl rfl rfl ti_39 rfl rfl rfl rfl rfl (AR.nil [0, 3, 4, 5, 6, 7, 8, 9, 10] rfl ?_))))))
 refine AW.seq (AW.sr (cs 1 rfl (AR.nil [3, 4, 5, 6, 7, 8, 9, 10, 21] rfl ?_)))
 refine AW.block (AW.sr (cs 2 rfl (AR.nil [3, 4, 5, 6, 7, 8, 9, 10, 21, 22] rfl ?_)))
 refine AW.cond rfl (fun h8 => ?_) (fun h8 => ?_)
 ·
  replace hf := ite_T h8 hf
  refine AW.seq (AW.draw 9 mixed (by kernel_rfl) rfl ?_)
  refine Ev.cons rfl rfl rfl (AO.load_box (i := 4) rfl rfl rfl ti_39 rfl rfl ⟨rfl, rfl⟩) (Ev.cons rfl rfl rfl (AO.buildSliceF (ApiType.cellsL [x3]) rfl sf_37 rfl rfl rfl (by first | rfl | simp only [List.map, ApiType.cells_eq, ApiType.cellsL]) ⟨rfl, rfl⟩) ?_)
  refine Ev.cons rfl rfl rfl (AO.load_box (i := 2) rfl rfl rfl ti_39 rfl rfl ⟨rfl, rfl⟩) (Ev.cons rfl rfl rfl (AO.buildSliceF (ApiType.cellsL [x5]) rfl sf_37 rfl rfl rfl (by first | rfl | simp only [List.map, ApiType.cells_eq, ApiType.cellsL]) ⟨rfl, rfl⟩) ?_)
  refine Ev.cons rfl rfl rfl (AO.load_box (i := 1) rfl rfl rfl ti_39 rfl rfl ⟨rfl, rfl⟩) (Ev.cons rfl rfl rfl (AO.buildSliceF (ApiType.cellsL [x6]) rfl sf_37 rfl rfl rfl (by first | rfl | simp only [List.map, ApiType.cells_eq, ApiType.cellsL]) ⟨rfl, rfl⟩) ?_)
  refine Ev.cons rfl rfl rfl (AO.buildSliceF (List.map ApiType.cellsLC [[x3], [x5], [x6]]) rfl sf_94 rfl rfl rfl rfl ⟨rfl, rfl⟩) (Ev.cons rfl rfl rfl (AO.load_box (i := 5) rfl rfl rfl ti_39 rfl rfl ⟨rfl, rfl⟩) (Ev.cs FX_ok 1 rfl (Ev.nil ?_)))
  show AR _ _ _ _ _ _ _ _
  refine AR.step_none rfl rfl (AO.store_box (i := 7) rfl rfl rfl ti_39 rfl rfl rfl rfl rfl (AR.nil [2, 3] rfl (AW.ret ?_)))
  cases hf
  exact ⟨rfl, _, ⟨_, _, rfl, rfl, _, _, rfl, ⟨_, _, 7, _, _, rfl, rfl, ti_39, rfl⟩, rfl⟩, [], List.nil_sublist _, h⟩
 ·
  replace hf := ite_F h8 hf
  refine AW.sr (cs 2 rfl (AR.nil [3, 4, 5, 6, 7, 8, 9, 10, 21, 32] rfl (AW.cond rfl (fun h9 => ?_) (fun h9 => ?_))))
  ·
   replace hf := ite_T h9 hf
   refine AW.seq (AW.draw 12 mixed (by kernel_rfl) rfl ?_)
   refine Ev.cons rfl rfl rfl (AO.load_box (i := 2) rfl rfl rfl ti_39 rfl rfl ⟨rfl, rfl⟩) (Ev.cons rfl rfl rfl (AO.load_box (i := 6) rfl rfl rfl ti_39 rfl rfl ⟨rfl, rfl⟩) (Ev.cons rfl rfl rfl (AO.buildSliceF (ApiType.cellsL [x5, x1]) rfl sf_37 rfl rfl rfl (by first | rfl | simp only [List.map, ApiType.cells_eq, ApiType.cellsL]) ⟨rfl, rfl⟩) ?_))
   refine Ev.cons rfl rfl rfl (AO.load_box (i := 4) rfl rfl rfl ti_39 rfl rfl ⟨rfl, rfl⟩) (Ev.cons rfl rfl rfl (AO.load_box (i := 4) rfl rfl rfl ti_39 rfl rfl ⟨rfl, rfl⟩) (Ev.cons rfl rfl rfl (AO.buildSliceF (ApiType.cellsL [x3, x3]) rfl sf_37 rfl rfl rfl (by first | rfl | simp only [List.map, ApiType.cells_eq, ApiType.cellsL]) ⟨rfl, rfl⟩) ?_))
   refine Ev.cons rfl rfl rfl (AO.load_box (i := 1) rfl rfl rfl ti_39 rfl rfl ⟨rfl, rfl⟩) (Ev.cons rfl rfl rfl (AO.load_box (i := 4) rfl rfl rfl ti_39 rfl rfl ⟨rfl, rfl⟩) (Ev.cons rfl rfl rfl (AO.buildSliceF (ApiType.cellsL [x6, x3]) rfl sf_37 rfl rfl rfl (by first | rfl | simp only [List.map, ApiType.cells_eq, ApiType.cellsL]) ⟨rfl, rfl⟩) ?_))
   refine Ev.cons rfl rfl rfl (AO.buildSliceF (List.map ApiType.cellsLC [[x5, x1], [x3, x3], [x6, x3]]) rfl sf_94 rfl rfl rfl rfl ⟨rfl, rfl⟩) (Ev.cons rfl rfl rfl (AO.load_box (i := 3) rfl rfl rfl ti_39 rfl rfl ⟨rfl, rfl⟩) (Ev.cs FX_ok 1 rfl (Ev.nil ?_)))
   show AR _ _ _ _ _ _ _ _
   refine AR.step_none rfl rfl (AO.store_box (i := 7) rfl rfl rfl ti_39 rfl rfl rfl rfl rfl (AR.nil [2, 3] rfl (AW.ret ?_)))
   cases hf
   exact ⟨rfl, _, ⟨_, _, rfl, rfl, _, _, rfl, ⟨_, _, 7, _, _, rfl, rfl, ti_39, rfl⟩, rfl⟩, [], List.nil_sublist _, h⟩
  ·
   replace hf := ite_F h9 hf
   refine AW.sr (cs 2 rfl (AR.nil [3, 4, 5, 6, 7, 9, 10, 21, 45] rfl (AW.cond rfl (fun h10 => ?_) (fun h10 => ?_))))
   ·
    replace hf := ite_T h10 hf
    refine AW.seq (AW.draw 6 mixed (by kernel_rfl) rfl ?_)
    refine Ev.cons rfl rfl rfl (AO.load_box (i := 0) rfl rfl rfl ti_39 rfl rfl ⟨rfl, rfl⟩) (Ev.cons rfl rfl rfl (AO.load_box (i := 4) rfl rfl rfl ti_39 rfl rfl ⟨rfl, rfl⟩) (Ev.cons rfl rfl rfl (AO.buildSliceF (ApiType.cellsL [x7, x3]) rfl sf_37 rfl rfl rfl (by first | rfl | simp only [List.map, ApiType.cells_eq, ApiType.cellsL]) ⟨rfl, rfl⟩) ?_))
    refine Ev.cons rfl rfl rfl (AO.buildSliceF (List.map ApiType.cellsLC [[x7, x3]]) rfl sf_94 rfl rfl rfl rfl ⟨rfl, rfl⟩) (Ev.cons rfl rfl rfl (AO.load_box (i := 4) rfl rfl rfl ti_39 rfl rfl ⟨rfl, rfl⟩) (Ev.cs FX_ok 1 rfl (Ev.nil ?_)))
    show AR _ _ _ _ _ _ _ _
    refine AR.step_none rfl rfl (AO.store_box (i := 7) rfl rfl rfl ti_39 rfl rfl rfl rfl rfl (AR.nil [2, 3] rfl (AW.ret ?_)))
    cases hf
    exact ⟨rfl, _, ⟨_, _, rfl, rfl, _, _, rfl, ⟨_, _, 7, _, _, rfl, rfl, ti_39, rfl⟩, rfl⟩, [], List.nil_sublist _, h⟩
   ·
    replace hf := ite_F h10 hf
    refine AW.sr (cs 2 rfl (AR.nil [3, 4, 5, 6, 7, 9, 10, 21, 52] rfl (AW.cond rfl (fun h11 => ?_) (fun h11 => ?_))))
    ·
     replace hf := ite_T h11 hf
     refine AW.seq (AW.draw 11 mixed (by kernel_rfl) rfl ?_)
     obtain ⟨x8, h12, hf⟩ := bind1_inv hf
     refine Ev.cons rfl rfl rfl (AO.call rfl _ rfl rfl pf_25 (c_check_of _ h12 ⟨rfl, rfl⟩)) (Ev.cons rfl rfl rfl (AO.buildSliceF (ApiType.cellsL [x8]) rfl sf_37 rfl rfl rfl (by first | rfl | simp only [List.map, ApiType.cells_eq, ApiType.cellsL]) ⟨rfl, rfl⟩) ?_)
     refine Ev.cons rfl rfl rfl (AO.load_box (i := 3) rfl rfl rfl ti_39 rfl rfl ⟨rfl, rfl⟩) (Ev.cons rfl rfl rfl (AO.buildSliceF (ApiType.cellsL [x4]) rfl sf_37 rfl rfl rfl (by first | rfl | simp only [List.map, ApiType.cells_eq, ApiType.cellsL]) ⟨rfl, rfl⟩) ?_)
     refine Ev.cons rfl rfl rfl (AO.load_box (i := 5) rfl rfl rfl ti_39 rfl rfl ⟨rfl, rfl⟩) (Ev.cons rfl rfl rfl (AO.buildSliceF (ApiType.cellsL [x2]) rfl sf_37 rfl rfl rfl (by first | rfl | simp only [List.map, ApiType.cells_eq, ApiType.cellsL]) ⟨rfl, rfl⟩) ?_)
     refine Ev.cons rfl rfl rfl (AO.load_box (i := 4) rfl rfl rfl ti_39 rfl rfl ⟨rfl, rfl⟩) (Ev.cons rfl rfl rfl (AO.buildSliceF (ApiType.cellsL [x3]) rfl sf_37 rfl rfl rfl (by first | rfl | simp only [List.map, ApiType.cells_eq, ApiType.cellsL]) ⟨rfl, rfl⟩) ?_)
     refine Ev.cons rfl rfl rfl (AO.buildSliceF (List.map ApiType.cellsLC [[x8], [x4], [x2], [x3]]) rfl sf_94 rfl rfl rfl rfl ⟨rfl, rfl⟩) (Ev.cons rfl rfl rfl (AO.load_box (i := 4) rfl rfl rfl ti_39 rfl rfl ⟨rfl, rfl⟩) (Ev.cs FX_ok 1 rfl (Ev.nil ?_)))
     show AR _ _ _ _ _ _ _ _
     refine AR.step_none rfl rfl (AO.store_box (i := 7) rfl rfl rfl ti_39 rfl rfl rfl rfl rfl (AR.nil [2, 3] rfl (AW.ret ?_)))
     cases hf
     exact ⟨rfl, _, ⟨_, _, rfl, rfl, _, _, rfl, ⟨_, _, 7, _, _, rfl, rfl, ti_39, rfl⟩, rfl⟩, [], List.nil_sublist _, h⟩
    ·
     replace hf := ite_F h11 hf
     refine AW.seq (AW.sr (cs 2 rfl (AR.nil [3, 4, 5, 6, 7, 9, 10, 21, 64] rfl ?_)))
     refine AW.cond rfl (fun h13 => ?_) (fun h13 => ?_)
     ·
      replace hf := ite_T h13 hf
      refine AW.skip (AW.cond rfl (fun h14 => ?_) (fun h14 => ?_))
      ·
       refine AW.seq (AW.draw 5 mixed (by kernel_rfl) rfl ?_)
       refine Ev.cons rfl rfl rfl (AO.load_box (i := 4) rfl rfl rfl ti_39 rfl rfl ⟨rfl, rfl⟩) (Ev.cons rfl rfl rfl (AO.buildSliceF (ApiType.cellsL [x3]) rfl sf_37 rfl rfl rfl (by first | rfl | simp only [List.map, ApiType.cells_eq, ApiType.cellsL]) ⟨rfl, rfl⟩) ?_)
       refine Ev.cons rfl rfl rfl (AO.buildSliceF (List.map ApiType.cellsLC [[x3]]) rfl sf_94 rfl rfl rfl rfl ⟨rfl, rfl⟩) (Ev.cons rfl rfl rfl (AO.load_box (i := 4) rfl rfl rfl ti_39 rfl rfl ⟨rfl, rfl⟩) (Ev.cs FX_ok 1 rfl (Ev.nil ?_)))
       show AR _ _ _ _ _ _ _ _
       refine AR.step_none rfl rfl (AO.store_box (i := 7) rfl rfl rfl ti_39 rfl rfl rfl rfl rfl (AR.nil [2, 3] rfl (AW.ret ?_)))
       cases hf
       exact ⟨rfl, _, ⟨_, _, rfl, rfl, _, _, rfl, ⟨_, _, 7, _, _, rfl, rfl, ti_39, rfl⟩, rfl⟩, [], List.nil_sublist _, h⟩
      ·
       cases h13.symm.trans h14
     ·
      replace hf := ite_F h13 hf
      refine AW.region (cs 2 rfl (AR.nil [3, 4, 5, 6, 7, 9, 10, 21, 64] rfl (AW.cond rfl (fun h15 => ?_) (fun h15 => ?_))))
      ·
       replace hf := ite_T h15 hf
       refine AW.seq (AW.draw 5 mixed (by kernel_rfl) rfl ?_)
       refine Ev.cons rfl rfl rfl (AO.load_box (i := 4) rfl rfl rfl ti_39 rfl rfl ⟨rfl, rfl⟩) (Ev.cons rfl rfl rfl (AO.buildSliceF (ApiType.cellsL [x3]) rfl sf_37 rfl rfl rfl (by first | rfl | simp only [List.map, ApiType.cells_eq, ApiType.cellsL]) ⟨rfl, rfl⟩) ?_)
       refine Ev.cons rfl rfl rfl (AO.buildSliceF (List.map ApiType.cellsLC [[x3]]) rfl sf_94 rfl rfl rfl rfl ⟨rfl, rfl⟩) (Ev.cons rfl rfl rfl (AO.load_box (i := 4) rfl rfl rfl ti_39 rfl rfl ⟨rfl, rfl⟩) (Ev.cs FX_ok 1 rfl (Ev.nil ?_)))
       show AR _ _ _ _ _ _ _ _
       refine AR.step_none rfl rfl (AO.store_box (i := 7) rfl rfl rfl ti_39 rfl rfl rfl rfl rfl (AR.nil [2, 3] rfl (AW.ret ?_)))
       cases hf
       exact ⟨rfl, _, ⟨_, _, rfl, rfl, _, _, rfl, ⟨_, _, 7, _, _, rfl, rfl, ti_39, rfl⟩, rfl⟩, [], List.nil_sublist _, h⟩
      ·
       replace hf := ite_F h15 hf
       refine AW.sr (cs 2 rfl (AR.nil [3, 4, 5, 6, 7, 9, 10, 21, 71] rfl (AW.cond rfl (fun h16 => ?_) (fun h16 => ?_))))
       ·
        replace hf := ite_T h16 hf
        refine AW.seq (AW.draw 6 mixed (by kernel_rfl) rfl ?_)
        refine Ev.cons rfl rfl rfl (AO.load_box (i := 4) rfl rfl rfl ti_39 rfl rfl ⟨rfl, rfl⟩) (Ev.cons rfl rfl rfl (AO.load_box (i := 4) rfl rfl rfl ti_39 rfl rfl ⟨rfl, rfl⟩) (Ev.cons rfl rfl rfl (AO.buildSliceF (ApiType.cellsL [x3, x3]) rfl sf_37 rfl rfl rfl (by first | rfl | simp only [List.map, ApiType.cells_eq, ApiType.cellsL]) ⟨rfl, rfl⟩) ?_))
        refine Ev.cons rfl rfl rfl (AO.buildSliceF (List.map ApiType.cellsLC [[x3, x3]]) rfl sf_94 rfl rfl rfl rfl ⟨rfl, rfl⟩) (Ev.cons rfl rfl rfl (AO.load_box (i := 0) rfl rfl rfl ti_39 rfl rfl ⟨rfl, rfl⟩) (Ev.cs FX_ok 1 rfl (Ev.nil ?_)))
        show AR _ _ _ _ _ _ _ _
        refine AR.step_none rfl rfl (AO.store_box (i := 7) rfl rfl rfl ti_39 rfl rfl rfl rfl rfl (AR.nil [2, 3] rfl (AW.ret ?_)))
        cases hf
        exact ⟨rfl, _, ⟨_, _, rfl, rfl, _, _, rfl, ⟨_, _, 7, _, _, rfl, rfl, ti_39, rfl⟩, rfl⟩, [], List.nil_sublist _, h⟩
       ·
        replace hf := ite_F h16 hf
        refine AW.seq (AW.sr (cs 2 rfl (AR.nil [3, 4, 5, 6, 7, 9, 10, 21, 78] rfl ?_)))
        refine AW.cond rfl (fun h17 => ?_) (fun h17 => ?_)
        ·
         replace hf := ite_T h17 hf
         refine AW.skip (AW.cond rfl (fun h18 => ?_) (fun h18 => ?_))
         ·
          refine AW.seq (AW.draw 6 mixed (by kernel_rfl) rfl ?_)
          refine Ev.cons rfl rfl rfl (AO.load_box (i := 4) rfl rfl rfl ti_39 rfl rfl ⟨rfl, rfl⟩) (Ev.cons rfl rfl rfl (AO.load_box (i := 4) rfl rfl rfl ti_39 rfl rfl ⟨rfl, rfl⟩) (Ev.cons rfl rfl rfl (AO.buildSliceF (ApiType.cellsL [x3, x3]) rfl sf_37 rfl rfl rfl (by first | rfl | simp only [List.map, ApiType.cells_eq, ApiType.cellsL]) ⟨rfl, rfl⟩) ?_))
          refine Ev.cons rfl rfl rfl (AO.buildSliceF (List.map ApiType.cellsLC [[x3, x3]]) rfl sf_94 rfl rfl rfl rfl ⟨rfl, rfl⟩) (Ev.cons rfl rfl rfl (AO.load_box (i := 3) rfl rfl rfl ti_39 rfl rfl ⟨rfl, rfl⟩) (Ev.cs FX_ok 1 rfl (Ev.nil ?_)))
          show AR _ _ _ _ _ _ _ _
          refine AR.step_none rfl rfl (AO.store_box (i := 7) rfl rfl rfl ti_39 rfl rfl rfl rfl rfl (AR.nil [2, 3] rfl (AW.ret ?_)))
          cases hf
          exact ⟨rfl, _, ⟨_, _, rfl, rfl, _, _, rfl, ⟨_, _, 7, _, _, rfl, rfl, ti_39, rfl⟩, rfl⟩, [], List.nil_sublist _, h⟩
         ·
          cases h17.symm.trans h18
        ·
         replace hf := ite_F h17 hf
         refine AW.region (cs 2 rfl (AR.nil [3, 4, 5, 6, 7, 9, 10, 21, 78] rfl (AW.cond rfl (fun h19 => ?_) (fun h19 => ?_))))
         ·
          replace hf := ite_T h19 hf
          refine AW.seq (AW.draw 6 mixed (by kernel_rfl) rfl ?_)
          refine Ev.cons rfl rfl rfl (AO.load_box (i := 4) rfl rfl rfl ti_39 rfl rfl ⟨rfl, rfl⟩) (Ev.cons rfl rfl rfl (AO.load_box (i := 4) rfl rfl rfl ti_39 rfl rfl ⟨rfl, rfl⟩) (Ev.cons rfl rfl rfl (AO.buildSliceF (ApiType.cellsL [x3, x3]) rfl sf_37 rfl rfl rfl (by first | rfl | simp only [List.map, ApiType.cells_eq, ApiType.cellsL]) ⟨rfl, rfl⟩) ?_))
          refine Ev.cons rfl rfl rfl (AO.buildSliceF (List.map ApiType.cellsLC [[x3, x3]]) rfl sf_94 rfl rfl rfl rfl ⟨rfl, rfl⟩) (Ev.cons rfl rfl rfl (AO.load_box (i := 3) rfl rfl rfl ti_39 rfl rfl ⟨rfl, rfl⟩) (Ev.cs FX_ok 1 rfl (Ev.nil ?_)))
          show AR _ _ _ _ _ _ _ _
          refine AR.step_none rfl rfl (AO.store_box (i := 7) rfl rfl rfl ti_39 rfl rfl rfl rfl rfl (AR.nil [2, 3] rfl (AW.ret ?_)))
          cases hf
          exact ⟨rfl, _, ⟨_, _, rfl, rfl, _, _, rfl, ⟨_, _, 7, _, _, rfl, rfl, ti_39, rfl⟩, rfl⟩, [], List.nil_sublist _, h⟩
         ·
          replace hf := ite_F h19 hf
          refine AW.sr (cs 2 rfl (AR.nil [3, 4, 5, 6, 9, 10, 21, 86] rfl (AW.cond rfl (fun h20 => ?_) (fun h20 => ?_))))
          ·
           replace hf := ite_T h20 hf
           refine AW.seq (AW.draw 5 mixed (by kernel_rfl) rfl ?_)
           refine Ev.cons rfl rfl rfl (AO.load_box (i := 4) rfl rfl rfl ti_39 rfl rfl ⟨rfl, rfl⟩) (Ev.cons rfl rfl rfl (AO.buildSliceF (ApiType.cellsL [x3]) rfl sf_37 rfl rfl rfl (by first | rfl | simp only [List.map, ApiType.cells_eq, ApiType.cellsL]) ⟨rfl, rfl⟩) ?_)
           refine Ev.cons rfl rfl rfl (AO.buildSliceF (List.map ApiType.cellsLC [[x3]]) rfl sf_94 rfl rfl rfl rfl ⟨rfl, rfl⟩) (Ev.cons rfl rfl rfl (AO.load_box (i := 5) rfl rfl rfl ti_39 rfl rfl ⟨rfl, rfl⟩) (Ev.cs FX_ok 1 rfl (Ev.nil ?_)))
           show AR _ _ _ _ _ _ _ _
           refine AR.step_none rfl rfl (AO.store_box (i := 7) rfl rfl rfl ti_39 rfl rfl rfl rfl rfl (AR.nil [2, 3] rfl (AW.ret ?_)))
           cases hf
           exact ⟨rfl, _, ⟨_, _, rfl, rfl, _, _, rfl, ⟨_, _, 7, _, _, rfl, rfl, ti_39, rfl⟩, rfl⟩, [], List.nil_sublist _, h⟩
          ·
           replace hf := ite_F h20 hf
           refine AW.sr (cs 2 rfl (AR.nil [3, 4, 9, 10, 21, 92] rfl (AW.cond rfl (fun h21 => ?_) (fun h21 => ?_))))
           ·
            replace hf := ite_T h21 hf
            refine AW.seq (AW.draw 6 mixed (by kernel_rfl) rfl ?_)
            refine Ev.cons rfl rfl rfl (AO.load_box (i := 6) rfl rfl rfl ti_39 rfl rfl ⟨rfl, rfl⟩) (Ev.cons rfl rfl rfl (AO.load_box (i := 6) rfl rfl rfl ti_39 rfl rfl ⟨rfl, rfl⟩) (Ev.cons rfl rfl rfl (AO.buildSliceF (ApiType.cellsL [x1, x1]) rfl sf_37 rfl rfl rfl (by first | rfl | simp only [List.map, ApiType.cells_eq, ApiType.cellsL]) ⟨rfl, rfl⟩) ?_))
            refine Ev.cons rfl rfl rfl (AO.buildSliceF (List.map ApiType.cellsLC [[x1, x1]]) rfl sf_94 rfl rfl rfl rfl ⟨rfl, rfl⟩) (Ev.cons rfl rfl rfl (AO.load_box (i := 6) rfl rfl rfl ti_39 rfl rfl ⟨rfl, rfl⟩) (Ev.cs FX_ok 1 rfl (Ev.nil ?_)))
            show AR _ _ _ _ _ _ _ _
            refine AR.step_none rfl rfl (AO.store_box (i := 7) rfl rfl rfl ti_39 rfl rfl rfl rfl rfl (AR.nil [2, 3] rfl (AW.ret ?_)))
            cases hf
            exact ⟨rfl, _, ⟨_, _, rfl, rfl, _, _, rfl, ⟨_, _, 7, _, _, rfl, rfl, ti_39, rfl⟩, rfl⟩, [], List.nil_sublist _, h⟩
           ·
            replace hf := ite_F h21 hf
            refine AW.sr (cs 2 rfl (AR.nil [3, 4, 9, 10, 99] rfl (AW.cond rfl (fun h22 => ?_) (fun h22 => ?_))))
            ·
             replace hf := ite_T h22 hf
             refine AW.seq (AW.draw 5 mixed (by kernel_rfl) rfl ?_)
             refine Ev.cons rfl rfl rfl (AO.load_box (i := 1) rfl rfl rfl ti_39 rfl rfl ⟨rfl, rfl⟩) (Ev.cons rfl rfl rfl (AO.buildSliceF (ApiType.cellsL [x6]) rfl sf_37 rfl rfl rfl (by first | rfl | simp only [List.map, ApiType.cells_eq, ApiType.cellsL]) ⟨rfl, rfl⟩) ?_)
             refine Ev.cons rfl rfl rfl (AO.buildSliceF (List.map ApiType.cellsLC [[x6]]) rfl sf_94 rfl rfl rfl rfl ⟨rfl, rfl⟩) (Ev.cons rfl rfl rfl (AO.load_box (i := 0) rfl rfl rfl ti_39 rfl rfl ⟨rfl, rfl⟩) (Ev.cs FX_ok 1 rfl (Ev.nil ?_)))
             show AR _ _ _ _ _ _ _ _
             refine AR.step_none rfl rfl (AO.store_box (i := 7) rfl rfl rfl ti_39 rfl rfl rfl rfl rfl (AR.nil [2, 3] rfl (AW.ret ?_)))
             cases hf
             exact ⟨rfl, _, ⟨_, _, rfl, rfl, _, _, rfl, ⟨_, _, 7, _, _, rfl, rfl, ti_39, rfl⟩, rfl⟩, [], List.nil_sublist _, h⟩
            ·
             replace hf := ite_F h22 hf
             refine AW.skip (AW.seq (AW.draw 2 mixed (by kernel_rfl) rfl ?_))
             refine Ev.cons rfl rfl rfl (AO.load_box (i := 6) rfl rfl rfl ti_39 rfl rfl ⟨rfl, rfl⟩) (Ev.cons rfl rfl rfl (AO.nil_list rfl rfl ⟨rfl, rfl⟩) (Ev.nil ?_))
             show AR _ _ _ _ _ _ _ _
             refine AR.step_none rfl rfl (AO.store_box (i := 7) rfl rfl rfl ti_39 rfl rfl rfl rfl rfl (AR.nil [2, 3] rfl (AW.ret ?_)))
             cases hf
             exact ⟨rfl, _, ⟨_, _, rfl, rfl, _, _, rfl, ⟨_, _, 7, _, _, rfl, rfl, ti_39, rfl⟩, rfl⟩, [], List.nil_sublist _, h⟩

theorem c_check_loose  (t1 : ApiType) {r0 : Bool} (hf : check_loose t1 = some r0) {τ : List Res} {Q : AOut → List Res → Prop} (h : Q (.ret (.bool r0)) τ) : AC Tryz.prog 74 [.agg [.int .i64 t1.kind, .list (ApiType.cellsL t1.elem)]] τ Q := by
 unfold check_loose at hf
 refine AC.none (AC.of_body 11 [.tmp 2] [0] Tryz.func74 rfl rfl rfl rfl rfl (AW.sr (AR.step rfl rfl rfl (AO.box_ref rfl rfl rfl ?_))))
 refine cs 1 rfl (AR.nil [1] rfl (AW.sr (cs 4 rfl ?_)))
 refine AR.or 4 6 10 [] (x := (t1.kind == 7)) rfl rfl (fun h1 => ?_) (fun h1 => ?_) ?_
 ·
  refine AR.is 6 h1 rfl (cs 4 rfl (AR.nil [10] rfl ?_))
  exact ⟨rfl, rfl, rfl, rfl⟩
 ·
  refine AR.is 6 h1 rfl (cs 4 rfl (AR.nil [10] rfl ?_))
  exact ⟨rfl, rfl, rfl, rfl⟩
 refine cs 1 rfl (AR.nil [2] rfl (AW.ret ?_))
 cases hf
 exact ⟨rfl, _, ⟨_, _, rfl, rfl, rfl⟩, [], List.nil_sublist _, h⟩

theorem w_check_compatible (go_check_compatible : ApiType → ApiType → Option Bool) (go_check_compatibleH : ∀ (ut1 : ApiType) (uu1 : ApiType) {urr1x0 : Bool}, go_check_compatible ut1 uu1 = some urr1x0 → ∀ {τ : List Res} {Q : AOut → List Res → Prop} (h : Q (.ret (.bool urr1x0)) τ), AC Tryz.prog 48 [.agg [.int .i64 ut1.kind, .list (ApiType.cellsL ut1.elem)], .agg [.int .i64 uu1.kind, .list (ApiType.cellsL uu1.elem)]] τ Q) (t1 : ApiType) (u1 : ApiType) {r0 : Bool} (hf : check_compatible_b go_check_compatible t1 u1 = some r0) {τ : List Res} {Q : AOut → List Res → Prop} (h : Q (.ret (.bool r0)) τ) : AC Tryz.prog 48 [.agg [.int .i64 t1.kind, .list (ApiType.cellsL t1.elem)], .agg [.int .i64 u1.kind, .list (ApiType.cellsL u1.elem)]] τ Q := by
 unfold check_compatible_b at hf
 refine AC.none (AC.of_body 39 [.tmp 4] [0, 1] Tryz.func48 rfl rfl rfl rfl rfl (AW.sr (AR.step rfl rfl rfl (AO.box_ref rfl rfl rfl ?_))))
 refine AR.step rfl rfl rfl (AO.box_ref rfl rfl rfl (cs 1 rfl (AR.nil [2, 3] rfl (AW.seq ?_))))
 refine AW.block (AW.sr (cs 1 rfl ?_))
 obtain ⟨x1, h1, hf⟩ := bind1_inv hf
 refine AR.step rfl rfl rfl (AO.call rfl _ rfl rfl pf_74 (c_check_loose _ h1 (cs 1 rfl (AR.or 4 8 12 [2, 3] (x := (u1.kind == 0)) rfl rfl (fun h2 => ?_) (fun h2 => ?_) ?_))))
 ·
  refine AR.is 8 h2 rfl (cs 4 rfl (AR.nil [12, 2, 3] rfl ?_))
  exact ⟨rfl, rfl, rfl, rfl⟩
 ·
  refine AR.is 8 h2 rfl (cs 4 rfl (AR.nil [12, 2, 3] rfl ?_))
  exact ⟨rfl, rfl, rfl, rfl⟩
 refine cs 1 rfl (AR.nil [2, 3, 5] rfl (AW.cond rfl (fun h3 => ?_) (fun h3 => ?_)))
 ·
  replace hf := ite_T h3 hf
  refine AW.sr (cs 1 rfl (AR.nil [4] rfl (AW.ret ?_)))
  cases hf
  exact ⟨rfl, _, ⟨_, _, rfl, rfl, rfl⟩, [], List.nil_sublist _, h⟩
 ·
  replace hf := ite_F h3 hf
  refine AW.sr (cs 6 rfl (AR.nil [2, 3, 13] rfl (AW.cond rfl (fun h4 => ?_) (fun h4 => ?_))))
  ·
   replace hf := ite_T h4 hf
   refine AW.sr (cs 1 rfl (AR.nil [4] rfl (AW.ret ?_)))
   cases hf
   exact ⟨rfl, _, ⟨_, _, rfl, rfl, rfl⟩, [], List.nil_sublist _, h⟩
  ·
   replace hf := ite_F h4 hf
   refine AW.sr (cs 2 rfl (AR.step rfl rfl rfl (AO.len_list (l := t1.elem) rfl rfl rfl rfl es_37 rfl (ApiType.cellsL_eq _) (cs 2 rfl ?_))))
   refine AR.and 5 24 29 [2, 3] (x := ((u1.elem.length : Int) == 1)) rfl rfl (fun h5 => ?_) (fun h5 => ?_) ?_
   ·
    refine AR.is 24 h5 rfl (cs 2 rfl (AR.go rfl rfl rfl rfl rfl rfl (AO.len_list (l := u1.elem) rfl rfl rfl rfl es_37 rfl (ApiType.cellsL_eq _) (cs 2 rfl ?_))))
    refine AR.nil [29, 2, 3] rfl ?_
    exact ⟨rfl, rfl, rfl, rfl⟩
   ·
    refine AR.is 24 h5 rfl (cs 5 rfl (AR.nil [29, 2, 3] rfl ?_))
    exact ⟨rfl, rfl, rfl, rfl⟩
   refine cs 1 rfl (AR.nil [2, 3, 19] rfl (AW.cond rfl (fun h6 => ?_) (fun h6 => ?_)))
   ·
    replace hf := ite_T h6 hf
    refine AW.seq (AW.draw 10 mixed (by kernel_rfl) rfl ?_)
    refine Ev.cs FX_ok 2 rfl ?_
    obtain ⟨e1, h7, hf⟩ := bind1_inv hf
    refine Ev.cons rfl rfl rfl (AO.idx_list h7 rfl rfl (ApiType.cellsL_eq _) rfl es_37 (ApiType.cells_eq _) rfl ⟨rfl, rfl⟩) (Ev.cs FX_ok 3 rfl ?_)
    obtain ⟨e2, h8, hf⟩ := bind1_inv hf
    refine Ev.cons rfl rfl rfl (AO.idx_list h8 rfl rfl (ApiType.cellsL_eq _) rfl es_37 (ApiType.cells_eq _) rfl ⟨rfl, rfl⟩) (Ev.cs FX_ok 1 rfl ?_)
    replace hf := (bind1_ret _).trans hf
    obtain ⟨x2, h9, hf⟩ := bind1_inv hf
    refine Ev.cons rfl rfl rfl (AO.call rfl _ rfl rfl pf_48 (go_check_compatibleH _ _ h9 ⟨rfl, rfl⟩)) (Ev.cs FX_ok 1 rfl (Ev.nil ?_))
    show AR _ _ _ _ _ _ _ _
    refine AR.nil [4] rfl (AW.ret ?_)
    cases hf
    exact ⟨rfl, _, ⟨_, _, rfl, rfl, rfl⟩, [], List.nil_sublist _, h⟩
   ·
    replace hf := ite_F h6 hf
    refine AW.skip (AW.sr (cs 1 rfl (AR.nil [4] rfl ?_)))
    refine AW.ret ?_
    cases hf
    exact ⟨rfl, _, ⟨_, _, rfl, rfl, rfl⟩, [], List.nil_sublist _, h⟩

theorem n_check_compatible : ∀ k : Nat, (∀ (ut1 : ApiType) (uu1 : ApiType) {urr1x0 : Bool}, check_compatible_n k ut1 uu1 = some urr1x0 → ∀ {τ : List Res} {Q : AOut → List Res → Prop} (h : Q (.ret (.bool urr1x0)) τ), AC Tryz.prog 48 [.agg [.int .i64 ut1.kind, .list (ApiType.cellsL ut1.elem)], .agg [.int .i64 uu1.kind, .list (ApiType.cellsL uu1.elem)]] τ Q) := by
 intro k
 induction k with
 | zero => exact fun _ _ _ hz => by first | cases hz | (unfold check_compatible_n at hz; cases hz)
 | succ k ih => exact fun ut1 uu1 urr1x0 hz τ Q hq => w_check_compatible (check_compatible_n k) ih ut1 uu1 hz hq
theorem c_check_compatible (ut1 : ApiType) (uu1 : ApiType) {urr1x0 : Bool} (hf : check_compatible ut1 uu1 = some urr1x0) {τ : List Res} {Q : AOut → List Res → Prop} (h : Q (.ret (.bool urr1x0)) τ) : AC Tryz.prog 48 [.agg [.int .i64 ut1.kind, .list (ApiType.cellsL ut1.elem)], .agg [.int .i64 uu1.kind, .list (ApiType.cellsL uu1.elem)]] τ Q :=
 ((n_check_compatible BIG)) ut1 uu1 hf h

theorem c_check_suits  (ts1 : List ApiType) (want1 : List ApiType) {r0 : Bool} (hf : check_suits ts1 want1 = some r0) {τ : List Res} {Q : AOut → List Res → Prop} (h : Q (.ret (.bool r0)) τ) : AC Tryz.prog 71 [.list (ApiType.cellsL ts1), .list (ApiType.cellsL want1)] τ Q := by
 unfold check_suits at hf
 refine AC.none (AC.of_body 22 [.tmp 4] [0, 1] Tryz.func71 rfl rfl rfl rfl rfl (AW.sr (cs 1 rfl ?_)))
 refine AR.nil [0, 1] rfl (AW.seq (AW.sr (cs 1 rfl ?_)))
 refine AR.step rfl rfl rfl (AO.len_list (l := want1) rfl rfl rfl rfl es_37 rfl (ApiType.cellsL_eq _) (cs 1 rfl (AR.nil [0, 1, 7, 8] rfl (AW.block ?_))))
 refine AW.settle [0, 1, 7, 8] rfl (AW.loopF1 (fun i1 => [(0, .list (ApiType.cellsL ts1)), (1, .list (ApiType.cellsL want1)), (7, .int .i64 (want1.length : Int)), (8, .int .i64 i1)]) (fun i1 => []) (fun kk1 i1 => check_suits_l1 ts1 want1 kk1 i1 = some r0) BIG 0 rfl rfl hf (fun _ hz => none_no hz) ?_)
 intro kk1 i1 hf
 rw [check_suits_l1] at hf
 refine AW.sr (cs 1 rfl (AR.nil [0, 1, 7, 8, 9] rfl (AW.seq ?_)))
 refine AW.cond rfl (fun h1 => ?_) (fun h1 => ?_)
 ·
  replace hf := ite_T h1 hf
  refine AW.skip (AW.seq (AW.block (AW.sr ?_)))
  refine cs 2 rfl (AR.nil [0, 1, 5, 7, 8] rfl (AW.seq (AW.draw 10 mixed (by kernel_rfl) rfl ?_)))
  refine Ev.cs FX_ok 2 rfl ?_
  obtain ⟨e1, h2, hf⟩ := bind1_inv hf
  refine Ev.cons rfl rfl rfl (AO.idx_list h2 rfl rfl (ApiType.cellsL_eq _) rfl es_37 (ApiType.cells_eq _) rfl ⟨rfl, rfl⟩) (Ev.cs FX_ok 3 rfl ?_)
  obtain ⟨e2, h3, hf⟩ := bind1_inv hf
  refine Ev.cons rfl rfl rfl (AO.idx_list h3 rfl rfl (ApiType.cellsL_eq _) rfl es_37 (ApiType.cells_eq _) rfl ⟨rfl, rfl⟩) (Ev.cs FX_ok 1 rfl ?_)
  obtain ⟨x1, h4, hf⟩ := bind1_inv hf
  refine Ev.cons rfl rfl rfl (AO.call rfl _ rfl rfl pf_48 (c_check_compatible _ _ h4 ⟨rfl, rfl⟩)) (Ev.cs FX_ok 1 rfl (Ev.nil ?_))
  show AR _ _ _ _ _ _ _ _
  refine AR.nil [0, 1, 7, 8, 20] rfl (AW.cond rfl (fun h5 => ?_) (fun h5 => ?_))
  ·
   replace hf := ite_T h5 hf
   refine AW.sr (cs 1 rfl (AR.nil [4] rfl (AW.ret ?_)))
   cases hf
   exact ⟨rfl, _, ⟨_, _, rfl, rfl, rfl⟩, [], List.nil_sublist _, h⟩
  ·
   replace hf := ite_F h5 hf
   refine AW.skip (AW.region (cs 2 rfl (AR.nil [0, 1, 7, 8] rfl ?_)))
   exact ⟨(w64 (i1 + 1)), rfl, rfl, rfl, hf⟩
 ·
  replace hf := ite_F h1 hf
  refine AW.exit (AW.sr (cs 1 rfl (AR.nil [4] rfl ?_)))
  refine AW.ret ?_
  cases hf
  exact ⟨rfl, _, ⟨_, _, rfl, rfl, rfl⟩, [], List.nil_sublist _, h⟩

theorem c_typing_scalar  (kind1 : Int) {r0 : ApiType} (hf : typing_scalar kind1 = some r0) {τ : List Res} {Q : AOut → List Res → Prop} (h : Q (.ret (.agg [.int .i64 r0.kind, .list (ApiType.cellsL r0.elem)])) τ) : AC Tryz.prog 51 [.int .i64 kind1] τ Q := by
 unfold typing_scalar at hf
 refine AC.none (AC.of_body 5 [.cell 2 39] [0] Tryz.func51 rfl rfl rfl rfl rfl (AW.sr (AR.step rfl rfl rfl (AO.alloc_own rfl zp_39 (fun b2 => ?_)))))
 refine AR.nil [0, 2] rfl (AW.sr (cs 1 rfl (AR.step rfl rfl rfl (AO.build rfl zp_39 spl_39 rfl ?_))))
 refine AR.step_none rfl rfl (AO.store_box (i := 0) rfl rfl rfl ti_39 rfl rfl rfl rfl rfl (AR.nil [2] rfl (AW.ret ?_)))
 cases hf
 exact ⟨rfl, _, ⟨_, _, rfl, ⟨_, _, 0, _, _, rfl, rfl, ti_39, rfl⟩, rfl⟩, [], List.nil_sublist _, h⟩

theorem c_typing_of  (kind1 : Int) (elem1 : ApiType) {r0 : ApiType} (hf : typing_of kind1 elem1 = some r0) {τ : List Res} {Q : AOut → List Res → Prop} (h : Q (.ret (.agg [.int .i64 r0.kind, .list (ApiType.cellsL r0.elem)])) τ) : AC Tryz.prog 80 [.int .i64 kind1, .agg [.int .i64 elem1.kind, .list (ApiType.cellsL elem1.elem)]] τ Q := by
 unfold typing_of at hf
 refine AC.none (AC.of_body 9 [.cell 4 39] [0, 1] Tryz.func80 rfl rfl rfl rfl rfl (AW.sr (AR.step rfl rfl rfl (AO.box_ref rfl rfl rfl ?_))))
 refine AR.step rfl rfl rfl (AO.alloc_own rfl zp_39 (fun b4 => (AR.nil [0, 3, 4] rfl (AW.sr (cs 2 rfl ?_)))))
 refine AR.step rfl rfl rfl (AO.buildSliceF (ApiType.cellsL [elem1]) rfl sf_37 rfl rfl rfl (by first | rfl | simp only [List.map, ApiType.cells_eq, ApiType.cellsL]) ?_)
 refine AR.step rfl rfl rfl (AO.build rfl zp_39 spl_39 rfl (AR.step_none rfl rfl (AO.store_box (i := 0) rfl rfl rfl ti_39 rfl rfl rfl rfl rfl (AR.nil [4] rfl (AW.ret ?_)))))
 cases hf
 exact ⟨rfl, _, ⟨_, _, rfl, ⟨_, _, 0, _, _, rfl, rfl, ti_39, rfl⟩, rfl⟩, [], List.nil_sublist _, h⟩

theorem w_typing_clone (go_typing_clone : ApiType → Option ApiType) (go_typing_cloneH : ∀ (ut1 : ApiType) {urr1x0 : ApiType}, go_typing_clone ut1 = some urr1x0 → ∀ {τ : List Res} {Q : AOut → List Res → Prop} (h : Q (.ret (.agg [.int .i64 urr1x0.kind, .list (ApiType.cellsL urr1x0.elem)])) τ), AC Tryz.prog 79 [.agg [.int .i64 ut1.kind, .list (ApiType.cellsL ut1.elem)]] τ Q) (t1 : ApiType) {r0 : ApiType} (hf : typing_clone_b go_typing_clone t1 = some r0) {τ : List Res} {Q : AOut → List Res → Prop} (h : Q (.ret (.agg [.int .i64 r0.kind, .list (ApiType.cellsL r0.elem)])) τ) : AC Tryz.prog 79 [.agg [.int .i64 t1.kind, .list (ApiType.cellsL t1.elem)]] τ Q := by
 unfold typing_clone_b at hf
 refine AC.none (AC.of_body 18 [.cell 2 39] [0] Tryz.func79 rfl rfl rfl rfl rfl (AW.sr (AR.step rfl rfl rfl (AO.box_ref rfl rfl rfl ?_))))
 refine AR.step rfl rfl rfl (AO.alloc_own rfl zp_39 (fun b2 => (AR.nil [1, 2] rfl (AW.seq (AW.sr ?_)))))
 refine cs 2 rfl ?_
 obtain ⟨x1, h1, hf⟩ := bind1_inv hf
 refine AR.step rfl rfl rfl (AO.call rfl _ rfl rfl pf_37 (c_typing_nested _ h1 (cs 1 rfl (AR.nil [1, 2, 6] rfl (AW.cond rfl (fun h2 => ?_) (fun h2 => ?_))))))
 ·
  replace hf := ite_T h2 hf
  refine AW.sr (cs 2 rfl ?_)
  replace hf := (bind1_ret _).trans hf
  obtain ⟨x2, h3, hf⟩ := bind1_inv hf
  refine AR.step rfl rfl rfl (AO.call rfl _ rfl rfl pf_51 (c_typing_scalar _ h3 (AR.step_none rfl rfl (AO.store_box (i := 0) rfl rfl rfl ti_39 rfl rfl rfl rfl rfl (AR.nil [2] rfl (AW.ret ?_))))))
  cases hf
  exact ⟨rfl, _, ⟨_, _, rfl, ⟨_, _, 0, _, _, rfl, rfl, ti_39, rfl⟩, rfl⟩, [], List.nil_sublist _, h⟩
 ·
  replace hf := ite_F h2 hf
  refine AW.skip (AW.seq (AW.draw 8 mixed (by kernel_rfl) rfl ?_))
  refine Ev.cs FX_ok 4 rfl ?_
  obtain ⟨e1, h4, hf⟩ := bind1_inv hf
  refine Ev.cons rfl rfl rfl (AO.idx_list h4 rfl rfl (ApiType.cellsL_eq _) rfl es_37 (ApiType.cells_eq _) rfl ⟨rfl, rfl⟩) (Ev.cs FX_ok 1 rfl ?_)
  obtain ⟨x3, h5, hf⟩ := bind1_inv hf
  refine Ev.cons rfl rfl rfl (AO.call rfl _ rfl rfl pf_79 (go_typing_cloneH _ h5 ⟨rfl, rfl⟩)) ?_
  replace hf := (bind1_ret _).trans hf
  obtain ⟨x4, h6, hf⟩ := bind1_inv hf
  refine Ev.cons rfl rfl rfl (AO.call rfl _ rfl rfl pf_80 (c_typing_of _ _ h6 ⟨rfl, rfl⟩)) (Ev.nil ?_)
  show AR _ _ _ _ _ _ _ _
  refine AR.step_none rfl rfl (AO.store_box (i := 0) rfl rfl rfl ti_39 rfl rfl rfl rfl rfl (AR.nil [2] rfl (AW.ret ?_)))
  cases hf
  exact ⟨rfl, _, ⟨_, _, rfl, ⟨_, _, 0, _, _, rfl, rfl, ti_39, rfl⟩, rfl⟩, [], List.nil_sublist _, h⟩

theorem n_typing_clone : ∀ k : Nat, (∀ (ut1 : ApiType) {urr1x0 : ApiType}, typing_clone_n k ut1 = some urr1x0 → ∀ {τ : List Res} {Q : AOut → List Res → Prop} (h : Q (.ret (.agg [.int .i64 urr1x0.kind, .list (ApiType.cellsL urr1x0.elem)])) τ), AC Tryz.prog 79 [.agg [.int .i64 ut1.kind, .list (ApiType.cellsL ut1.elem)]] τ Q) := by
 intro k
 induction k with
 | zero => exact fun _ _ hz => by first | cases hz | (unfold typing_clone_n at hz; cases hz)
 | succ k ih => exact fun ut1 urr1x0 hz τ Q hq => w_typing_clone (typing_clone_n k) ih ut1 hz hq
theorem c_typing_clone (ut1 : ApiType) {urr1x0 : ApiType} (hf : typing_clone ut1 = some urr1x0) {τ : List Res} {Q : AOut → List Res → Prop} (h : Q (.ret (.agg [.int .i64 urr1x0.kind, .list (ApiType.cellsL urr1x0.elem)])) τ) : AC Tryz.prog 79 [.agg [.int .i64 ut1.kind, .list (ApiType.cellsL ut1.elem)]] τ Q :=
 ((n_typing_clone BIG)) ut1 hf h

theorem w_typing_join (go_typing_join : ApiType → ApiType → Option ApiType) (go_typing_joinH : ∀ (ua1 : ApiType) (ub1 : ApiType) {urr1x0 : ApiType}, go_typing_join ua1 ub1 = some urr1x0 → ∀ {τ : List Res} {Q : AOut → List Res → Prop} (h : Q (.ret (.agg [.int .i64 urr1x0.kind, .list (ApiType.cellsL urr1x0.elem)])) τ), AC Tryz.prog 52 [.agg [.int .i64 ua1.kind, .list (ApiType.cellsL ua1.elem)], .agg [.int .i64 ub1.kind, .list (ApiType.cellsL ub1.elem)]] τ Q) (a1 : ApiType) (b1 : ApiType) {r0 : ApiType} (hf : typing_join_b go_typing_join a1 b1 = some r0) {τ : List Res} {Q : AOut → List Res → Prop} (h : Q (.ret (.agg [.int .i64 r0.kind, .list (ApiType.cellsL r0.elem)])) τ) : AC Tryz.prog 52 [.agg [.int .i64 a1.kind, .list (ApiType.cellsL a1.elem)], .agg [.int .i64 b1.kind, .list (ApiType.cellsL b1.elem)]] τ Q := by
 unfold typing_join_b at hf
 refine AC.none (AC.of_body 43 [.cell 4 39] [0, 1] Tryz.func52 rfl rfl rfl rfl rfl (AW.sr (AR.step rfl rfl rfl (AO.box_ref rfl rfl rfl ?_))))
 refine AR.step rfl rfl rfl (AO.box_ref rfl rfl rfl (AR.step rfl rfl rfl (AO.alloc_own rfl zp_39 (fun b4 => (AR.nil [2, 3, 4] rfl (AW.seq ?_))))))
 refine AW.block (AW.sr (cs 4 rfl (AR.nil [2, 3, 4, 5] rfl ?_)))
 refine AW.cond rfl (fun h1 => ?_) (fun h1 => ?_)
 ·
  replace hf := ite_T h1 hf
  refine AW.sr (cs 1 rfl ?_)
  replace hf := (bind1_ret _).trans hf
  obtain ⟨x1, h2, hf⟩ := bind1_inv hf
  refine AR.step rfl rfl rfl (AO.call rfl _ rfl rfl pf_79 (c_typing_clone _ h2 (AR.step_none rfl rfl (AO.store_box (i := 0) rfl rfl rfl ti_39 rfl rfl rfl rfl rfl (AR.nil [4] rfl (AW.ret ?_))))))
  cases hf
  exact ⟨rfl, _, ⟨_, _, rfl, ⟨_, _, 0, _, _, rfl, rfl, ti_39, rfl⟩, rfl⟩, [], List.nil_sublist _, h⟩
 ·
  replace hf := ite_F h1 hf
  refine AW.sr (cs 4 rfl (AR.nil [2, 3, 4, 11] rfl (AW.cond rfl (fun h3 => ?_) (fun h3 => ?_))))
  ·
   replace hf := ite_T h3 hf
   refine AW.sr (cs 1 rfl ?_)
   replace hf := (bind1_ret _).trans hf
   obtain ⟨x2, h4, hf⟩ := bind1_inv hf
   refine AR.step rfl rfl rfl (AO.call rfl _ rfl rfl pf_79 (c_typing_clone _ h4 (AR.step_none rfl rfl (AO.store_box (i := 0) rfl rfl rfl ti_39 rfl rfl rfl rfl rfl (AR.nil [4] rfl (AW.ret ?_))))))
   cases hf
   exact ⟨rfl, _, ⟨_, _, rfl, ⟨_, _, 0, _, _, rfl, rfl, ti_39, rfl⟩, rfl⟩, [], List.nil_sublist _, h⟩
  ·
   replace hf := ite_F h3 hf
   refine AW.sr (cs 6 rfl (AR.nil [2, 3, 4, 17] rfl (AW.cond rfl (fun h5 => ?_) (fun h5 => ?_))))
   ·
    replace hf := ite_T h5 hf
    refine AW.sr ?_
    replace hf := (bind1_ret _).trans hf
    obtain ⟨x3, h6, hf⟩ := bind1_inv hf
    refine AR.step rfl rfl rfl (AO.call rfl _ rfl rfl pf_51 (c_typing_scalar _ h6 (AR.step_none rfl rfl (AO.store_box (i := 0) rfl rfl rfl ti_39 rfl rfl rfl rfl rfl (AR.nil [4] rfl (AW.ret ?_))))))
    cases hf
    exact ⟨rfl, _, ⟨_, _, rfl, ⟨_, _, 0, _, _, rfl, rfl, ti_39, rfl⟩, rfl⟩, [], List.nil_sublist _, h⟩
   ·
    replace hf := ite_F h5 hf
    refine AW.sr (cs 2 rfl ?_)
    obtain ⟨x4, h7, hf⟩ := bind1_inv hf
    refine AR.step rfl rfl rfl (AO.call rfl _ rfl rfl pf_37 (c_typing_nested _ h7 (cs 1 rfl (AR.nil [2, 3, 4, 24] rfl (AW.cond rfl (fun h8 => ?_) (fun h8 => ?_))))))
    ·
     replace hf := ite_T h8 hf
     refine AW.seq (AW.draw 12 mixed (by kernel_rfl) rfl ?_)
     refine Ev.cs FX_ok 4 rfl ?_
     obtain ⟨e1, h9, hf⟩ := bind1_inv hf
     refine Ev.cons rfl rfl rfl (AO.idx_list h9 rfl rfl (ApiType.cellsL_eq _) rfl es_37 (ApiType.cells_eq _) rfl ⟨rfl, rfl⟩) (Ev.cs FX_ok 3 rfl ?_)
     obtain ⟨e2, h10, hf⟩ := bind1_inv hf
     refine Ev.cons rfl rfl rfl (AO.idx_list h10 rfl rfl (ApiType.cellsL_eq _) rfl es_37 (ApiType.cells_eq _) rfl ⟨rfl, rfl⟩) (Ev.cs FX_ok 1 rfl ?_)
     obtain ⟨x5, h11, hf⟩ := bind1_inv hf
     refine Ev.cons rfl rfl rfl (AO.call rfl _ rfl rfl pf_52 (go_typing_joinH _ _ h11 ⟨rfl, rfl⟩)) ?_
     replace hf := (bind1_ret _).trans hf
     obtain ⟨x6, h12, hf⟩ := bind1_inv hf
     refine Ev.cons rfl rfl rfl (AO.call rfl _ rfl rfl pf_80 (c_typing_of _ _ h12 ⟨rfl, rfl⟩)) (Ev.nil ?_)
     show AR _ _ _ _ _ _ _ _
     refine AR.step_none rfl rfl (AO.store_box (i := 0) rfl rfl rfl ti_39 rfl rfl rfl rfl rfl (AR.nil [4] rfl (AW.ret ?_)))
     cases hf
     exact ⟨rfl, _, ⟨_, _, rfl, ⟨_, _, 0, _, _, rfl, rfl, ti_39, rfl⟩, rfl⟩, [], List.nil_sublist _, h⟩
    ·
     replace hf := ite_F h8 hf
     refine AW.skip (AW.sr (cs 2 rfl ?_))
     replace hf := (bind1_ret _).trans hf
     obtain ⟨x7, h13, hf⟩ := bind1_inv hf
     refine AR.step rfl rfl rfl (AO.call rfl _ rfl rfl pf_51 (c_typing_scalar _ h13 (AR.step_none rfl rfl (AO.store_box (i := 0) rfl rfl rfl ti_39 rfl rfl rfl rfl rfl (AR.nil [4] rfl (AW.ret ?_))))))
     cases hf
     exact ⟨rfl, _, ⟨_, _, rfl, ⟨_, _, 0, _, _, rfl, rfl, ti_39, rfl⟩, rfl⟩, [], List.nil_sublist _, h⟩

theorem n_typing_join : ∀ k : Nat, (∀ (ua1 : ApiType) (ub1 : ApiType) {urr1x0 : ApiType}, typing_join_n k ua1 ub1 = some urr1x0 → ∀ {τ : List Res} {Q : AOut → List Res → Prop} (h : Q (.ret (.agg [.int .i64 urr1x0.kind, .list (ApiType.cellsL urr1x0.elem)])) τ), AC Tryz.prog 52 [.agg [.int .i64 ua1.kind, .list (ApiType.cellsL ua1.elem)], .agg [.int .i64 ub1.kind, .list (ApiType.cellsL ub1.elem)]] τ Q) := by
 intro k
 induction k with
 | zero => exact fun _ _ _ hz => by first | cases hz | (unfold typing_join_n at hz; cases hz)
 | succ k ih => exact fun ua1 ub1 urr1x0 hz τ Q hq => w_typing_join (typing_join_n k) ih ua1 ub1 hz hq
theorem c_typing_join (ua1 : ApiType) (ub1 : ApiType) {urr1x0 : ApiType} (hf : typing_join ua1 ub1 = some urr1x0) {τ : List Res} {Q : AOut → List Res → Prop} (h : Q (.ret (.agg [.int .i64 urr1x0.kind, .list (ApiType.cellsL urr1x0.elem)])) τ) : AC Tryz.prog 52 [.agg [.int .i64 ua1.kind, .list (ApiType.cellsL ua1.elem)], .agg [.int .i64 ub1.kind, .list (ApiType.cellsL ub1.elem)]] τ Q :=
 ((n_typing_join BIG)) ua1 ub1 hf h

theorem w_typing_find (go_typing_find : ApiValue → Option ApiType) (go_typing_findH : ∀ (uv1 : ApiValue) {urr1x0 : ApiType}, go_typing_find uv1 = some urr1x0 → ∀ {τ : List Res} {Q : AOut → List Res → Prop} (h : Q (.ret (.agg [.int .i64 urr1x0.kind, .list (ApiType.cellsL urr1x0.elem)])) τ), AC Tryz.prog 73 [.agg [.int .i64 uv1.kind, .bool uv1.bool_, .int .i64 uv1.int_, .str uv1.str_, .list (ApiValue.cellsL uv1.list_), .list (List.map strC uv1.keys)]] τ Q) (v1 : ApiValue) {r0 : ApiType} (hf : typing_find_b go_typing_find v1 = some r0) {τ : List Res} {Q : AOut → List Res → Prop} (h : Q (.ret (.agg [.int .i64 r0.kind, .list (ApiType.cellsL r0.elem)])) τ) : AC Tryz.prog 73 [.agg [.int .i64 v1.kind, .bool v1.bool_, .int .i64 v1.int_, .str v1.str_, .list (ApiValue.cellsL v1.list_), .list (List.map strC v1.keys)]] τ Q := by
 unfold typing_find_b at hf
 refine AC.none (AC.of_body 40 [.cell 2 39] [0] Tryz.func73 rfl rfl rfl rfl rfl (AW.sr (AR.step rfl rfl rfl (AO.box_ref rfl rfl rfl ?_))))
 refine AR.step rfl rfl rfl (AO.alloc_own rfl zp_39 (fun b2 => (AR.nil [1, 2] rfl (AW.seq (AW.sr ?_)))))
 refine cs 2 rfl (AR.nil [1, 2, 7] rfl (AW.block (AW.sr ?_)))
 refine cs 2 rfl (AR.nil [1, 2, 7, 8] rfl (AW.cond rfl (fun h1 => ?_) (fun h1 => ?_)))
 ·
  replace hf := ite_T h1 hf
  refine AW.sr ?_
  replace hf := (bind1_ret _).trans hf
  obtain ⟨x1, h2, hf⟩ := bind1_inv hf
  refine AR.step rfl rfl rfl (AO.call rfl _ rfl rfl pf_51 (c_typing_scalar _ h2 (AR.step_none rfl rfl (AO.store_box (i := 0) rfl rfl rfl ti_39 rfl rfl rfl rfl rfl (AR.nil [2] rfl (AW.ret ?_))))))
  cases hf
  exact ⟨rfl, _, ⟨_, _, rfl, ⟨_, _, 0, _, _, rfl, rfl, ti_39, rfl⟩, rfl⟩, [], List.nil_sublist _, h⟩
 ·
  replace hf := ite_F h1 hf
  refine AW.sr (cs 2 rfl (AR.nil [1, 2, 7, 11] rfl (AW.cond rfl (fun h3 => ?_) (fun h3 => ?_))))
  ·
   replace hf := ite_T h3 hf
   refine AW.sr ?_
   replace hf := (bind1_ret _).trans hf
   obtain ⟨x2, h4, hf⟩ := bind1_inv hf
   refine AR.step rfl rfl rfl (AO.call rfl _ rfl rfl pf_51 (c_typing_scalar _ h4 (AR.step_none rfl rfl (AO.store_box (i := 0) rfl rfl rfl ti_39 rfl rfl rfl rfl rfl (AR.nil [2] rfl (AW.ret ?_))))))
   cases hf
   exact ⟨rfl, _, ⟨_, _, rfl, ⟨_, _, 0, _, _, rfl, rfl, ti_39, rfl⟩, rfl⟩, [], List.nil_sublist _, h⟩
  ·
   replace hf := ite_F h3 hf
   refine AW.sr (cs 2 rfl (AR.nil [1, 2, 7, 14] rfl (AW.cond rfl (fun h5 => ?_) (fun h5 => ?_))))
   ·
    replace hf := ite_T h5 hf
    refine AW.sr ?_
    replace hf := (bind1_ret _).trans hf
    obtain ⟨x3, h6, hf⟩ := bind1_inv hf
    refine AR.step rfl rfl rfl (AO.call rfl _ rfl rfl pf_51 (c_typing_scalar _ h6 (AR.step_none rfl rfl (AO.store_box (i := 0) rfl rfl rfl ti_39 rfl rfl rfl rfl rfl (AR.nil [2] rfl (AW.ret ?_))))))
    cases hf
    exact ⟨rfl, _, ⟨_, _, rfl, ⟨_, _, 0, _, _, rfl, rfl, ti_39, rfl⟩, rfl⟩, [], List.nil_sublist _, h⟩
   ·
    replace hf := ite_F h5 hf
    refine AW.sr (cs 2 rfl (AR.nil [1, 2, 17] rfl (AW.cond rfl (fun h7 => ?_) (fun h7 => ?_))))
    ·
     replace hf := ite_T h7 hf
     refine AW.sr ?_
     replace hf := (bind1_ret _).trans hf
     obtain ⟨x4, h8, hf⟩ := bind1_inv hf
     refine AR.step rfl rfl rfl (AO.call rfl _ rfl rfl pf_51 (c_typing_scalar _ h8 (AR.step_none rfl rfl (AO.store_box (i := 0) rfl rfl rfl ti_39 rfl rfl rfl rfl rfl (AR.nil [2] rfl (AW.ret ?_))))))
     cases hf
     exact ⟨rfl, _, ⟨_, _, rfl, ⟨_, _, 0, _, _, rfl, rfl, ti_39, rfl⟩, rfl⟩, [], List.nil_sublist _, h⟩
    ·
     replace hf := ite_F h7 hf
     refine AW.skip (AW.sr ?_)
     obtain ⟨x5, h9, hf⟩ := bind1_inv hf
     refine AR.step rfl rfl rfl (AO.call rfl _ rfl rfl pf_51 (c_typing_scalar _ h9 (AR.step rfl rfl rfl (AO.alloc_own rfl zp_39 (fun b3 => (AR.step_none rfl rfl (AO.store_box (i := 0) rfl rfl rfl ti_39 rfl rfl rfl rfl rfl (AR.nil [1, 2, 3] rfl ?_))))))))
     refine AW.seq (AW.sr (cs 2 rfl (AR.step rfl rfl rfl (AO.len_list (l := v1.list_) rfl rfl rfl rfl es_22 rfl (ApiValue.cellsL_eq _) ?_))))
     refine cs 1 rfl (AR.nil [1, 2, 3, 22, 23, 24] rfl (AW.block (AW.settle [1, 2, 3, 22, 23, 24] rfl ?_)))
     refine AW.loopF2 (fun x6 elem1 => [(1, .ref [.int .i64 v1.kind, .bool v1.bool_, .int .i64 v1.int_, .str v1.str_, .list (ApiValue.cellsL v1.list_), .list (List.map strC v1.keys)]), (2, .val (.pointer (some ⟨b2, 0, none⟩))), (3, .val (.pointer (some ⟨b3, 0, none⟩))), (22, .list (ApiValue.cellsL v1.list_)), (23, .int .i64 (v1.list_.length : Int)), (24, .int .i64 x6)]) (fun x6 elem1 => [.box b3 [.int .i64 elem1.kind, .list (ApiType.cellsL elem1.elem)], .box b2 [.int .i64 0, .own (.slice none 0 0) []]]) (fun kk1 x6 elem1 => typing_find_l1 go_typing_find v1 kk1 x6 elem1 = some r0) BIG 0 x5 rfl rfl hf (fun _ _ hz => none_no hz) ?_
     intro kk1 x6 elem1 hf
     rw [typing_find_l1] at hf
     refine AW.sr (cs 1 rfl (AR.nil [1, 2, 3, 22, 23, 24, 25] rfl (AW.seq ?_)))
     refine AW.cond rfl (fun h10 => ?_) (fun h10 => ?_)
     ·
      replace hf := ite_T h10 hf
      refine AW.skip (AW.seq (AW.block (AW.sr ?_)))
      obtain ⟨e1, h11, hf⟩ := bind1_inv hf
      refine AR.step rfl rfl rfl (AO.idx_list h11 rfl rfl (ApiValue.cellsL_eq _) rfl es_22 (ApiValue.cells_eq _) rfl (cs 1 rfl (AR.step rfl rfl rfl (AO.alloc_own rfl zp_25 (fun b5 => (AR.step_none rfl rfl (AO.store_box (i := 0) rfl rfl rfl ti_25 rfl rfl rfl rfl rfl ?_)))))))
      refine AR.nil [1, 2, 3, 5, 22, 23, 24] rfl (AW.draw 4 mixed (by kernel_rfl) rfl ?_)
      refine Ev.cons rfl rfl rfl (AO.load_box (i := 1) rfl rfl rfl ti_39 rfl rfl ⟨rfl, rfl⟩) (Ev.cons rfl rfl rfl (AO.load_box (i := 0) rfl rfl rfl ti_25 rfl rfl ⟨rfl, rfl⟩) ?_)
      obtain ⟨x7, h12, hf⟩ := bind1_inv hf
      refine Ev.cons rfl rfl rfl (AO.call rfl _ rfl rfl pf_73 (go_typing_findH _ h12 ⟨rfl, rfl⟩)) ?_
      obtain ⟨x8, h13, hf⟩ := bind1_inv hf
      refine Ev.cons rfl rfl rfl (AO.call rfl _ rfl rfl pf_52 (c_typing_join _ _ h13 ⟨rfl, rfl⟩)) (Ev.nil ?_)
      show AR _ _ _ _ _ _ _ _
      refine AR.step_none rfl rfl (AO.store_box (i := 1) rfl rfl rfl ti_39 rfl rfl rfl rfl rfl (AR.nil [1, 2, 3, 22, 23, 24] rfl (AW.region (cs 2 rfl ?_))))
      refine AR.drop1 (AR.nil [1, 2, 3, 22, 23, 24] rfl ?_)
      exact ⟨(w64 (x6 + 1)), x8, rfl, rfl, rfl, hf⟩
     ·
      replace hf := ite_F h10 hf
      refine AW.exit (AW.seq (AW.sr (cs 3 rfl ?_)))
      refine AR.nil [2, 3, 35] rfl (AW.cond rfl (fun h14 => ?_) (fun h14 => ?_))
      ·
       replace hf := ite_T h14 hf
       refine AW.sr (AR.step rfl rfl rfl (AO.load_box (i := 0) rfl rfl rfl ti_39 rfl rfl ?_))
       replace hf := (bind1_ret _).trans hf
       obtain ⟨x9, h15, hf⟩ := bind1_inv hf
       refine AR.step rfl rfl rfl (AO.call rfl _ rfl rfl pf_80 (c_typing_of _ _ h15 (AR.step_none rfl rfl (AO.store_box (i := 1) rfl rfl rfl ti_39 rfl rfl rfl rfl rfl (AR.nil [2] rfl (AW.ret ?_))))))
       cases hf
       exact ⟨rfl, _, ⟨_, _, rfl, ⟨_, _, 1, _, _, rfl, rfl, ti_39, rfl⟩, rfl⟩, [], List.nil_sublist _, h⟩
      ·
       replace hf := ite_F h14 hf
       refine AW.skip (AW.sr (AR.step rfl rfl rfl (AO.load_box (i := 0) rfl rfl rfl ti_39 rfl rfl ?_)))
       replace hf := (bind1_ret _).trans hf
       obtain ⟨x10, h16, hf⟩ := bind1_inv hf
       refine AR.step rfl rfl rfl (AO.call rfl _ rfl rfl pf_80 (c_typing_of _ _ h16 (AR.step_none rfl rfl (AO.store_box (i := 1) rfl rfl rfl ti_39 rfl rfl rfl rfl rfl (AR.nil [2] rfl (AW.ret ?_))))))
       cases hf
       exact ⟨rfl, _, ⟨_, _, rfl, ⟨_, _, 1, _, _, rfl, rfl, ti_39, rfl⟩, rfl⟩, [], List.nil_sublist _, h⟩

theorem n_typing_find : ∀ k : Nat, (∀ (uv1 : ApiValue) {urr1x0 : ApiType}, typing_find_n k uv1 = some urr1x0 → ∀ {τ : List Res} {Q : AOut → List Res → Prop} (h : Q (.ret (.agg [.int .i64 urr1x0.kind, .list (ApiType.cellsL urr1x0.elem)])) τ), AC Tryz.prog 73 [.agg [.int .i64 uv1.kind, .bool uv1.bool_, .int .i64 uv1.int_, .str uv1.str_, .list (ApiValue.cellsL uv1.list_), .list (List.map strC uv1.keys)]] τ Q) := by
 intro k
 induction k with
 | zero => exact fun _ _ hz => by first | cases hz | (unfold typing_find_n at hz; cases hz)
 | succ k ih => exact fun uv1 urr1x0 hz τ Q hq => w_typing_find (typing_find_n k) ih uv1 hz hq
theorem c_typing_find (uv1 : ApiValue) {urr1x0 : ApiType} (hf : typing_find uv1 = some urr1x0) {τ : List Res} {Q : AOut → List Res → Prop} (h : Q (.ret (.agg [.int .i64 urr1x0.kind, .list (ApiType.cellsL urr1x0.elem)])) τ) : AC Tryz.prog 73 [.agg [.int .i64 uv1.kind, .bool uv1.bool_, .int .i64 uv1.int_, .str uv1.str_, .list (ApiValue.cellsL uv1.list_), .list (List.map strC uv1.keys)]] τ Q :=
 ((n_typing_find BIG)) uv1 hf h

theorem c_typing_Of  (v1 : ApiValue) {r0 : ApiType} (hf : typing_Of v1 = some r0) {τ : List Res} {Q : AOut → List Res → Prop} (h : Q (.ret (.agg [.int .i64 r0.kind, .list (ApiType.cellsL r0.elem)])) τ) : AC Tryz.prog 42 [.agg [.int .i64 v1.kind, .bool v1.bool_, .int .i64 v1.int_, .str v1.str_, .list (ApiValue.cellsL v1.list_), .list (List.map strC v1.keys)]] τ Q := by
 unfold typing_Of at hf
 refine AC.none (AC.of_body 9 [.cell 2 39] [0] Tryz.func42 rfl rfl rfl rfl rfl (AW.sr (AR.step rfl rfl rfl (AO.box_ref rfl rfl rfl ?_))))
 refine AR.step rfl rfl rfl (AO.alloc_own rfl zp_39 (fun b2 => (AR.nil [1, 2] rfl (AW.seq (AW.sr ?_)))))
 refine cs 1 rfl ?_
 obtain ⟨x1, h1, hf⟩ := bind1_inv hf
 refine AR.step rfl rfl rfl (AO.call rfl _ rfl rfl pf_72 (c_value_Valid _ h1 (cs 1 rfl (AR.nil [1, 2, 5] rfl (AW.cond rfl (fun h2 => ?_) (fun h2 => ?_))))))
 ·
  replace hf := ite_T h2 hf
  refine AW.sr ?_
  replace hf := (bind1_ret _).trans hf
  obtain ⟨x2, h3, hf⟩ := bind1_inv hf
  refine AR.step rfl rfl rfl (AO.call rfl _ rfl rfl pf_51 (c_typing_scalar _ h3 (AR.step_none rfl rfl (AO.store_box (i := 0) rfl rfl rfl ti_39 rfl rfl rfl rfl rfl (AR.nil [2] rfl (AW.ret ?_))))))
  cases hf
  exact ⟨rfl, _, ⟨_, _, rfl, ⟨_, _, 0, _, _, rfl, rfl, ti_39, rfl⟩, rfl⟩, [], List.nil_sublist _, h⟩
 ·
  replace hf := ite_F h2 hf
  refine AW.skip (AW.sr (cs 1 rfl ?_))
  replace hf := (bind1_ret _).trans hf
  obtain ⟨x3, h4, hf⟩ := bind1_inv hf
  refine AR.step rfl rfl rfl (AO.call rfl _ rfl rfl pf_73 (c_typing_find _ h4 (AR.step_none rfl rfl (AO.store_box (i := 0) rfl rfl rfl ti_39 rfl rfl rfl rfl rfl (AR.nil [2] rfl (AW.ret ?_))))))
  cases hf
  exact ⟨rfl, _, ⟨_, _, rfl, ⟨_, _, 0, _, _, rfl, rfl, ti_39, rfl⟩, rfl⟩, [], List.nil_sublist _, h⟩

theorem c_check_declared  (env1 : List ApiDecl) (name1 : Str) {r0 : ApiType} {r1 : Int} (hf : check_declared env1 name1 = some (r0, r1)) {τ : List Res} {Q : AOut → List Res → Prop} (h : Q (.ret (.tuple [.agg [.int .i64 r0.kind, .list (ApiType.cellsL r0.elem)], .int .i64 r1])) τ) : AC Tryz.prog 43 [.list (List.map ApiDecl.cells env1), .str name1] τ Q := by
 unfold check_declared at hf
 refine AC.none (AC.of_body 22 [.cell 4 39, .tmp 5] [0, 1] Tryz.func43 rfl rfl rfl rfl rfl (AW.sr (AR.step rfl rfl rfl (AO.alloc_own rfl zp_39 (fun b4 => ?_)))))
 refine cs 1 rfl (AR.nil [0, 1, 4] rfl (AW.seq (AW.sr ?_)))
 refine cs 1 rfl (AR.step rfl rfl rfl (AO.len_list (l := env1) rfl rfl rfl rfl es_29 rfl rfl (cs 1 rfl (AR.nil [1, 4, 8, 9, 10] rfl ?_))))
 refine AW.block (AW.settle [1, 4, 8, 9, 10] rfl (AW.loopF1 (fun x1 => [(1, .str name1), (4, .val (.pointer (some ⟨b4, 0, none⟩))), (8, .list (List.map ApiDecl.cells env1)), (9, .int .i64 (env1.length : Int)), (10, .int .i64 x1)]) (fun x1 => [.box b4 [.int .i64 0, .own (.slice none 0 0) []]]) (fun kk1 x1 => check_declared_l1 env1 name1 kk1 x1 = some (r0, r1)) BIG 0 rfl rfl hf (fun _ hz => none_no hz) ?_))
 intro kk1 x1 hf
 rw [check_declared_l1] at hf
 refine AW.sr (cs 1 rfl (AR.nil [1, 4, 8, 9, 10, 11] rfl (AW.seq ?_)))
 refine AW.cond rfl (fun h1 => ?_) (fun h1 => ?_)
 ·
  replace hf := ite_T h1 hf
  refine AW.skip (AW.seq (AW.block (AW.sr ?_)))
  obtain ⟨e1, h2, hf⟩ := bind1_inv hf
  refine AR.step rfl rfl rfl (AO.idx_list h2 rfl rfl rfl rfl es_29 (ApiDecl.cells_eq _) rfl (cs 1 rfl (AR.step rfl rfl rfl (AO.alloc_own rfl zp_41 (fun b7 => (AR.step_none rfl rfl (AO.store_box (i := 0) rfl rfl rfl ti_41 rfl rfl rfl rfl rfl ?_)))))))
  refine AR.nil [1, 4, 7, 8, 9, 10] rfl (AW.sr (cs 1 rfl (AR.step rfl rfl rfl (AO.load_box (i := 0) rfl rfl rfl ti_9 rfl rfl ?_))))
  refine cs 2 rfl (AR.nil [1, 4, 7, 8, 9, 10, 17] rfl (AW.cond rfl (fun h3 => ?_) (fun h3 => ?_)))
  ·
   replace hf := ite_T h3 hf
   refine AW.sr (cs 1 rfl (AR.step rfl rfl rfl (AO.load_box (i := 0) rfl rfl rfl ti_39 rfl rfl (AR.step_none rfl rfl (AO.store_box (i := 1) rfl rfl rfl ti_39 rfl rfl rfl rfl rfl ?_)))))
   refine cs 1 rfl (AR.nil [4, 5] rfl (AW.ret ?_))
   cases hf
   exact ⟨rfl, _, ⟨_, _, rfl, ⟨_, _, 1, _, _, rfl, rfl, ti_39, rfl⟩, _, _, rfl, rfl, rfl⟩, [], List.nil_sublist _, h⟩
  ·
   replace hf := ite_F h3 hf
   refine AW.skip (AW.region (cs 2 rfl (AR.drop1 ?_)))
   refine AR.nil [1, 4, 8, 9, 10] rfl ?_
   exact ⟨(w64 (x1 + 1)), rfl, rfl, rfl, hf⟩
 ·
  replace hf := ite_F h1 hf
  refine AW.exit (AW.sr (AR.step rfl rfl rfl (AO.build rfl zp_39 spl_39 rfl (AR.step_none rfl rfl (AO.store_box (i := 0) rfl rfl rfl ti_39 rfl rfl rfl rfl rfl ?_)))))
  refine cs 1 rfl (AR.nil [4, 5] rfl (AW.ret ?_))
  cases hf
  exact ⟨rfl, _, ⟨_, _, rfl, ⟨_, _, 0, _, _, rfl, rfl, ti_39, rfl⟩, _, _, rfl, rfl, rfl⟩, [], List.nil_sublist _, h⟩

theorem c_check_member  (t1 : ApiType) {r0 : ApiType} {r1 : Int} (hf : check_member t1 = some (r0, r1)) {τ : List Res} {Q : AOut → List Res → Prop} (h : Q (.ret (.tuple [.agg [.int .i64 r0.kind, .list (ApiType.cellsL r0.elem)], .int .i64 r1])) τ) : AC Tryz.prog 44 [.agg [.int .i64 t1.kind, .list (ApiType.cellsL t1.elem)]] τ Q := by
 unfold check_member at hf
 refine AC.none (AC.of_body 17 [.cell 2 39, .tmp 3] [0] Tryz.func44 rfl rfl rfl rfl rfl (AW.sr (AR.step rfl rfl rfl (AO.box_ref rfl rfl rfl ?_))))
 refine AR.step rfl rfl rfl (AO.alloc_own rfl zp_39 (fun b2 => (cs 1 rfl (AR.nil [1, 2] rfl (AW.seq ?_)))))
 refine AW.block (AW.sr (cs 1 rfl ?_))
 obtain ⟨x1, h1, hf⟩ := bind1_inv hf
 refine AR.step rfl rfl rfl (AO.call rfl _ rfl rfl pf_74 (c_check_loose _ h1 (cs 1 rfl (AR.nil [1, 2, 4] rfl (AW.cond rfl (fun h2 => ?_) (fun h2 => ?_))))))
 ·
  replace hf := ite_T h2 hf
  refine AW.sr (cs 1 rfl (AR.step_none rfl rfl (AO.store_box (i := 0) rfl rfl rfl ti_39 rfl rfl rfl rfl rfl (cs 1 rfl ?_))))
  refine AR.nil [2, 3] rfl (AW.ret ?_)
  cases hf
  exact ⟨rfl, _, ⟨_, _, rfl, ⟨_, _, 0, _, _, rfl, rfl, ti_39, rfl⟩, _, _, rfl, rfl, rfl⟩, [], List.nil_sublist _, h⟩
 ·
  replace hf := ite_F h2 hf
  refine AW.sr (cs 4 rfl (AR.nil [1, 2, 8] rfl (AW.cond rfl (fun h3 => ?_) (fun h3 => ?_))))
  ·
   replace hf := ite_T h3 hf
   refine AW.sr (cs 2 rfl ?_)
   obtain ⟨e1, h4, hf⟩ := bind1_inv hf
   refine AR.step rfl rfl rfl (AO.idx_list h4 rfl rfl (ApiType.cellsL_eq _) rfl es_37 (ApiType.cells_eq _) rfl (cs 1 rfl (AR.step_none rfl rfl (AO.store_box (i := 0) rfl rfl rfl ti_39 rfl rfl rfl rfl rfl (cs 1 rfl ?_)))))
   refine AR.nil [2, 3] rfl (AW.ret ?_)
   cases hf
   exact ⟨rfl, _, ⟨_, _, rfl, ⟨_, _, 0, _, _, rfl, rfl, ti_39, rfl⟩, _, _, rfl, rfl, rfl⟩, [], List.nil_sublist _, h⟩
  ·
   replace hf := ite_F h3 hf
   refine AW.skip (AW.sr (AR.step rfl rfl rfl (AO.build rfl zp_39 spl_39 rfl (AR.step_none rfl rfl (AO.store_box (i := 0) rfl rfl rfl ti_39 rfl rfl rfl rfl rfl ?_)))))
   refine cs 1 rfl (AR.nil [2, 3] rfl (AW.ret ?_))
   cases hf
   exact ⟨rfl, _, ⟨_, _, rfl, ⟨_, _, 0, _, _, rfl, rfl, ti_39, rfl⟩, _, _, rfl, rfl, rfl⟩, [], List.nil_sublist _, h⟩

theorem c_check_index  (t1 : ApiType) (i1 : ApiType) {r0 : ApiType} {r1 : Int} (hf : check_index t1 i1 = some (r0, r1)) {τ : List Res} {Q : AOut → List Res → Prop} (h : Q (.ret (.tuple [.agg [.int .i64 r0.kind, .list (ApiType.cellsL r0.elem)], .int .i64 r1])) τ) : AC Tryz.prog 45 [.agg [.int .i64 t1.kind, .list (ApiType.cellsL t1.elem)], .agg [.int .i64 i1.kind, .list (ApiType.cellsL i1.elem)]] τ Q := by
 unfold check_index at hf
 refine AC.none (AC.of_body 42 [.cell 4 39, .tmp 5] [0, 1] Tryz.func45 rfl rfl rfl rfl rfl (AW.sr (AR.step rfl rfl rfl (AO.box_ref rfl rfl rfl ?_))))
 refine AR.step rfl rfl rfl (AO.box_ref rfl rfl rfl (AR.step rfl rfl rfl (AO.alloc_own rfl zp_39 (fun b4 => (cs 1 rfl (AR.nil [2, 3, 4] rfl ?_))))))
 refine AW.seq (AW.draw 8 mixed (by kernel_rfl) rfl ?_)
 refine Ev.cs FX_ok 1 rfl ?_
 obtain ⟨x1, h1, hf⟩ := bind1_inv hf
 refine Ev.cons rfl rfl rfl (AO.call rfl _ rfl rfl pf_25 (c_check_of _ h1 ⟨rfl, rfl⟩)) ?_
 obtain ⟨number1, h2, hf⟩ := bind1_inv hf
 refine Ev.cons rfl rfl rfl (AO.call rfl _ rfl rfl pf_48 (c_check_compatible _ _ h2 ⟨rfl, rfl⟩)) (Ev.cs FX_ok 1 rfl ?_)
 obtain ⟨x2, h3, hf⟩ := bind1_inv hf
 refine Ev.cons rfl rfl rfl (AO.call rfl _ rfl rfl pf_25 (c_check_of _ h3 ⟨rfl, rfl⟩)) ?_
 obtain ⟨text1, h4, hf⟩ := bind1_inv hf
 refine Ev.cons rfl rfl rfl (AO.call rfl _ rfl rfl pf_48 (c_check_compatible _ _ h4 ⟨rfl, rfl⟩)) (Ev.cs FX_ok 2 rfl (Ev.nil ?_))
 show AR _ _ _ _ _ _ _ _
 refine AR.nil [2, 4, 6, 7] rfl (AW.seq (AW.block (AW.seq ?_)))
 refine AW.sr (cs 4 rfl (AR.and 2 18 20 [2, 4, 6, 7] (x := number1) rfl rfl (fun h5 => ?_) (fun h5 => ?_) ?_))
 ·
  refine AR.is 18 h5 rfl (cs 2 rfl (AR.nil [20, 2, 4, 6, 7] rfl ?_))
  exact ⟨rfl, rfl, rfl, rfl⟩
 ·
  refine AR.is 18 h5 rfl (cs 2 rfl (AR.nil [20, 2, 4, 6, 7] rfl ?_))
  exact ⟨rfl, rfl, rfl, rfl⟩
 refine cs 1 rfl (AR.nil [2, 4, 6, 7, 14] rfl (AW.cond rfl (fun h6 => ?_) (fun h6 => ?_)))
 ·
  replace hf := ite_T h6 hf
  refine AW.skip (AW.cond rfl (fun h7 => ?_) (fun h7 => ?_))
  ·
   refine AW.sr (cs 2 rfl ?_)
   obtain ⟨e1, h8, hf⟩ := bind1_inv hf
   refine AR.step rfl rfl rfl (AO.idx_list h8 rfl rfl (ApiType.cellsL_eq _) rfl es_37 (ApiType.cells_eq _) rfl (cs 1 rfl (AR.step_none rfl rfl (AO.store_box (i := 0) rfl rfl rfl ti_39 rfl rfl rfl rfl rfl (cs 1 rfl ?_)))))
   refine AR.nil [4, 5] rfl (AW.ret ?_)
   cases hf
   exact ⟨rfl, _, ⟨_, _, rfl, ⟨_, _, 0, _, _, rfl, rfl, ti_39, rfl⟩, _, _, rfl, rfl, rfl⟩, [], List.nil_sublist _, h⟩
  ·
   cases h6.symm.trans h7
 ·
  replace hf := ite_F h6 hf
  refine AW.region (cs 4 rfl (AR.and 2 24 26 [2, 4, 6, 7, 14] (x := text1) rfl rfl (fun h9 => ?_) (fun h9 => ?_) ?_))
  ·
   refine AR.is 24 h9 rfl (cs 2 rfl (AR.nil [26, 2, 4, 6, 7, 14] rfl ?_))
   exact ⟨rfl, rfl, rfl, rfl⟩
  ·
   refine AR.is 24 h9 rfl (cs 2 rfl (AR.nil [26, 2, 4, 6, 7, 14] rfl ?_))
   exact ⟨rfl, rfl, rfl, rfl⟩
  refine cs 1 rfl (AR.nil [2, 4, 6, 7, 14] rfl (AW.cond rfl (fun h10 => ?_) (fun h10 => ?_)))
  ·
   replace hf := ite_T h10 hf
   refine AW.sr (cs 2 rfl ?_)
   obtain ⟨e2, h11, hf⟩ := bind1_inv hf
   refine AR.step rfl rfl rfl (AO.idx_list h11 rfl rfl (ApiType.cellsL_eq _) rfl es_37 (ApiType.cells_eq _) rfl (cs 1 rfl (AR.step_none rfl rfl (AO.store_box (i := 0) rfl rfl rfl ti_39 rfl rfl rfl rfl rfl (cs 1 rfl ?_)))))
   refine AR.nil [4, 5] rfl (AW.ret ?_)
   cases hf
   exact ⟨rfl, _, ⟨_, _, rfl, ⟨_, _, 0, _, _, rfl, rfl, ti_39, rfl⟩, _, _, rfl, rfl, rfl⟩, [], List.nil_sublist _, h⟩
  ·
   replace hf := ite_F h10 hf
   refine AW.sr (cs 1 rfl ?_)
   obtain ⟨x3, h12, hf⟩ := bind1_inv hf
   refine AR.step rfl rfl rfl (AO.call rfl _ rfl rfl pf_74 (c_check_loose _ h12 (cs 1 rfl (AR.and 5 34 39 [2, 4] (x := (number1 || text1)) rfl rfl (fun h13 => ?_) (fun h13 => ?_) ?_))))
   ·
    refine AR.is 34 h13 rfl (cs 2 rfl (AR.or 2 36 38 [2, 4, 34] (x := text1) rfl rfl (fun h14 => ?_) (fun h14 => ?_) ?_))
    ·
     refine AR.is 36 h14 rfl (cs 2 rfl (AR.nil [38, 2, 4, 34] rfl ?_))
     exact ⟨rfl, rfl, rfl, rfl⟩
    ·
     refine AR.is 36 h14 rfl (cs 2 rfl (AR.nil [38, 2, 4, 34] rfl ?_))
     exact ⟨rfl, rfl, rfl, rfl⟩
    refine cs 1 rfl (AR.nil [39, 2, 4] rfl ?_)
    exact ⟨rfl, rfl, rfl, rfl⟩
   ·
    refine AR.is 34 h13 rfl (cs 5 rfl (AR.nil [39, 2, 4] rfl ?_))
    exact ⟨rfl, rfl, rfl, rfl⟩
   refine cs 1 rfl (AR.nil [2, 4, 31] rfl (AW.cond rfl (fun h15 => ?_) (fun h15 => ?_)))
   ·
    replace hf := ite_T h15 hf
    refine AW.sr (cs 1 rfl (AR.step_none rfl rfl (AO.store_box (i := 0) rfl rfl rfl ti_39 rfl rfl rfl rfl rfl (cs 1 rfl ?_))))
    refine AR.nil [4, 5] rfl (AW.ret ?_)
    cases hf
    exact ⟨rfl, _, ⟨_, _, rfl, ⟨_, _, 0, _, _, rfl, rfl, ti_39, rfl⟩, _, _, rfl, rfl, rfl⟩, [], List.nil_sublist _, h⟩
   ·
    replace hf := ite_F h15 hf
    refine AW.skip (AW.sr (AR.step rfl rfl rfl (AO.build rfl zp_39 spl_39 rfl (AR.step_none rfl rfl (AO.store_box (i := 0) rfl rfl rfl ti_39 rfl rfl rfl rfl rfl ?_)))))
    refine cs 1 rfl (AR.nil [4, 5] rfl (AW.ret ?_))
    cases hf
    exact ⟨rfl, _, ⟨_, _, rfl, ⟨_, _, 0, _, _, rfl, rfl, ti_39, rfl⟩, _, _, rfl, rfl, rfl⟩, [], List.nil_sublist _, h⟩

theorem c_check_unary  (op1 : Str) (t1 : ApiType) {r0 : ApiType} {r1 : Int} (hf : check_unary op1 t1 = some (r0, r1)) {τ : List Res} {Q : AOut → List Res → Prop} (h : Q (.ret (.tuple [.agg [.int .i64 r0.kind, .list (ApiType.cellsL r0.elem)], .int .i64 r1])) τ) : AC Tryz.prog 46 [.str op1, .agg [.int .i64 t1.kind, .list (ApiType.cellsL t1.elem)]] τ Q := by
 unfold check_unary at hf
 refine AC.none (AC.of_body 17 [.cell 4 39, .tmp 5] [0, 1] Tryz.func46 rfl rfl rfl rfl rfl (AW.sr (AR.step rfl rfl rfl (AO.box_ref rfl rfl rfl ?_))))
 refine AR.step rfl rfl rfl (AO.alloc_own rfl zp_39 (fun b4 => (cs 1 rfl (AR.nil [0, 3, 4] rfl (AW.sr ?_)))))
 obtain ⟨x1, h1, hf⟩ := bind1_inv hf
 refine AR.step rfl rfl rfl (AO.call rfl _ rfl rfl pf_25 (c_check_of _ h1 (AR.step rfl rfl rfl (AO.alloc_own rfl zp_39 (fun b6 => (AR.step_none rfl rfl (AO.store_box (i := 0) rfl rfl rfl ti_39 rfl rfl rfl rfl rfl (AR.nil [0, 3, 4, 6] rfl ?_))))))))
 refine AW.seq (AW.sr (cs 2 rfl (AR.nil [3, 4, 6, 9] rfl ?_)))
 refine AW.cond rfl (fun h2 => ?_) (fun h2 => ?_)
 ·
  replace hf := ite_T h2 hf
  refine AW.region ?_
  obtain ⟨x2, h3, hf⟩ := bind1_inv hf
  refine AR.step rfl rfl rfl (AO.call rfl _ rfl rfl pf_25 (c_check_of _ h3 (AR.step_none rfl rfl (AO.store_box (i := 0) rfl rfl rfl ti_39 rfl rfl rfl rfl rfl (AR.nil [3, 4, 6] rfl (AW.seq ?_))))))
  refine AW.sr (cs 1 rfl (AR.step rfl rfl rfl (AO.load_box (i := 0) rfl rfl rfl ti_39 rfl rfl ?_)))
  obtain ⟨x3, h4, hf⟩ := bind1_inv hf
  refine AR.step rfl rfl rfl (AO.call rfl _ rfl rfl pf_48 (c_check_compatible _ _ h4 (cs 1 rfl (AR.nil [4, 6, 14] rfl (AW.cond rfl (fun h5 => ?_) (fun h5 => ?_))))))
  ·
   replace hf := ite_T h5 hf
   refine AW.sr (AR.step rfl rfl rfl (AO.build rfl zp_39 spl_39 rfl (AR.step_none rfl rfl (AO.store_box (i := 1) rfl rfl rfl ti_39 rfl rfl rfl rfl rfl (cs 1 rfl ?_)))))
   refine AR.nil [4, 5] rfl (AW.ret ?_)
   cases hf
   exact ⟨rfl, _, ⟨_, _, rfl, ⟨_, _, 1, _, _, rfl, rfl, ti_39, rfl⟩, _, _, rfl, rfl, rfl⟩, [], List.nil_sublist _, h⟩
  ·
   replace hf := ite_F h5 hf
   refine AW.skip (AW.sr (AR.step rfl rfl rfl (AO.load_box (i := 0) rfl rfl rfl ti_39 rfl rfl (AR.step_none rfl rfl (AO.store_box (i := 1) rfl rfl rfl ti_39 rfl rfl rfl rfl rfl ?_)))))
   refine cs 1 rfl (AR.nil [4, 5] rfl (AW.ret ?_))
   cases hf
   exact ⟨rfl, _, ⟨_, _, rfl, ⟨_, _, 1, _, _, rfl, rfl, ti_39, rfl⟩, _, _, rfl, rfl, rfl⟩, [], List.nil_sublist _, h⟩
 ·
  replace hf := ite_F h2 hf
  refine AW.skip (AW.seq (AW.sr (cs 1 rfl ?_)))
  refine AR.step rfl rfl rfl (AO.load_box (i := 0) rfl rfl rfl ti_39 rfl rfl ?_)
  obtain ⟨x4, h6, hf⟩ := bind1_inv hf
  refine AR.step rfl rfl rfl (AO.call rfl _ rfl rfl pf_48 (c_check_compatible _ _ h6 (cs 1 rfl (AR.nil [4, 6, 14] rfl (AW.cond rfl (fun h7 => ?_) (fun h7 => ?_))))))
  ·
   replace hf := ite_T h7 hf
   refine AW.sr (AR.step rfl rfl rfl (AO.build rfl zp_39 spl_39 rfl (AR.step_none rfl rfl (AO.store_box (i := 1) rfl rfl rfl ti_39 rfl rfl rfl rfl rfl (cs 1 rfl ?_)))))
   refine AR.nil [4, 5] rfl (AW.ret ?_)
   cases hf
   exact ⟨rfl, _, ⟨_, _, rfl, ⟨_, _, 1, _, _, rfl, rfl, ti_39, rfl⟩, _, _, rfl, rfl, rfl⟩, [], List.nil_sublist _, h⟩
  ·
   replace hf := ite_F h7 hf
   refine AW.skip (AW.sr (AR.step rfl rfl rfl (AO.load_box (i := 0) rfl rfl rfl ti_39 rfl rfl (AR.step_none rfl rfl (AO.store_box (i := 1) rfl rfl rfl ti_39 rfl rfl rfl rfl rfl ?_)))))
   refine cs 1 rfl (AR.nil [4, 5] rfl (AW.ret ?_))
   cases hf
   exact ⟨rfl, _, ⟨_, _, rfl, ⟨_, _, 1, _, _, rfl, rfl, ti_39, rfl⟩, _, _, rfl, rfl, rfl⟩, [], List.nil_sublist _, h⟩

theorem c_check_binary_1  (kind1 : Int) (c1 : ApiType) (c2 : ApiType) {r0 : Bool} (hf : check_binary_1 kind1 c1 c2 = some r0) {τ : List Res} {Q : AOut → List Res → Prop} (h : Q (.ret (.bool r0)) τ) : AC Tryz.prog 75 [.int .i64 kind1, .ref [.int .i64 c1.kind, .list (ApiType.cellsL c1.elem)], .ref [.int .i64 c2.kind, .list (ApiType.cellsL c2.elem)]] τ Q := by
 unfold check_binary_1 at hf
 refine AC.none (AC.of_body 15 [.tmp 4] [0, 1, 2] Tryz.func75 rfl rfl rfl rfl rfl (AW.sr (cs 1 rfl ?_)))
 refine AR.nil [0, 1, 2] rfl (AW.seq (AW.draw 11 mixed (by kernel_rfl) rfl ?_))
 refine Ev.cs FX_ok 2 rfl ?_
 obtain ⟨x1, h1, hf⟩ := bind1_inv hf
 refine Ev.cons rfl rfl rfl (AO.call rfl _ rfl rfl pf_25 (c_check_of _ h1 ⟨rfl, rfl⟩)) ?_
 obtain ⟨x2, h2, hf⟩ := bind1_inv hf
 refine Ev.cons rfl rfl rfl (AO.call rfl _ rfl rfl pf_48 (c_check_compatible _ _ h2 ⟨rfl, rfl⟩)) (Ev.cs FX_ok 1 rfl ?_)
 replace hf := (bind1_ret _).trans hf
 obtain ⟨b1, h4, hf⟩ := bind1_inv hf
 refine Ev.join1 hKA 5 9 14 true [] (.bool b1) rfl rfl (fun h3 => ?_) (fun h3 => ?_) ?_
 ·
  replace h4 := ite_T h3 h4
  refine Ev.is hKL 9 h3 rfl (Ev.cs FX_ok 2 rfl ?_)
  obtain ⟨x3, h5, h4⟩ := bind1_inv h4
  refine Ev.run rfl rfl rfl rfl rfl rfl rfl (AO.call rfl _ rfl rfl pf_25 (c_check_of _ h5 ⟨rfl, rfl⟩)) ?_
  replace h4 := (bind1_ret _).trans h4
  obtain ⟨x4, h6, h4⟩ := bind1_inv h4
  refine Ev.run rfl rfl rfl rfl rfl rfl rfl (AO.call rfl _ rfl rfl pf_48 (c_check_compatible _ _ h6 ⟨rfl, rfl⟩)) ?_
  obtain rfl := Option.some.inj h4
  refine Ev.cs FX_ok 1 rfl ?_
  exact Ev.nil (Less.settle (ps := [14]) rfl)
 ·
  replace h4 := ite_F h3 h4
  refine Ev.is hKL 9 h3 rfl ?_
  obtain rfl := Option.some.inj h4
  refine Ev.cs FX_ok 5 rfl ?_
  exact Ev.nil (Less.settle (ps := [14]) rfl)
 refine Ev.cs FX_ok 1 rfl (Ev.nil ?_)
 show AR _ _ _ _ _ _ _ _
 refine AR.nil [4] rfl (AW.ret ?_)
 cases hf
 exact ⟨rfl, _, ⟨_, _, rfl, rfl, rfl⟩, [], List.nil_sublist _, h⟩

theorem c_check_common  (a1 : ApiType) (b1 : ApiType) (kind1 : Int) {r0 : Bool} (hf : check_common a1 b1 kind1 = some r0) {τ : List Res} {Q : AOut → List Res → Prop} (h : Q (.ret (.bool r0)) τ) : AC Tryz.prog 76 [.agg [.int .i64 a1.kind, .list (ApiType.cellsL a1.elem)], .agg [.int .i64 b1.kind, .list (ApiType.cellsL b1.elem)], .int .i64 kind1] τ Q := by
 unfold check_common at hf
 refine AC.none (AC.of_body 37 [.tmp 6] [0, 1, 2] Tryz.func76 rfl rfl rfl rfl rfl (AW.sr (AR.step rfl rfl rfl (AO.box_ref rfl rfl rfl ?_))))
 refine AR.step rfl rfl rfl (AO.box_ref rfl rfl rfl (cs 1 rfl (AR.nil [2, 3, 4] rfl (AW.sr ?_))))
 refine cs 1 rfl ?_
 obtain ⟨x1, h1, hf⟩ := bind1_inv hf
 refine AR.step rfl rfl rfl (AO.call rfl _ rfl rfl pf_74 (c_check_loose _ h1 (cs 1 rfl (AR.or 5 9 14 [2, 3, 4] (x := (a1.kind == kind1)) rfl rfl (fun h2 => ?_) (fun h2 => ?_) ?_))))
 ·
  refine AR.is 9 h2 rfl (cs 5 rfl (AR.nil [14, 2, 3, 4] rfl ?_))
  exact ⟨rfl, rfl, rfl, rfl⟩
 ·
  refine AR.is 9 h2 rfl (cs 5 rfl (AR.nil [14, 2, 3, 4] rfl ?_))
  exact ⟨rfl, rfl, rfl, rfl⟩
 refine cs 1 rfl ?_
 obtain ⟨b2, h4, hf⟩ := bind1_inv hf
 refine AR.join1 9 15 24 true [2, 3, 4] b2 rfl rfl (fun h3 => ?_) (fun h3 => ?_) ?_
 ·
  replace h4 := ite_T h3 h4
  refine AR.is 15 h3 rfl (cs 1 rfl ?_)
  obtain ⟨x2, h5, h4⟩ := bind1_inv h4
  refine AR.go rfl rfl rfl rfl rfl rfl (AO.call rfl _ rfl rfl pf_74 (c_check_loose _ h5 (cs 1 rfl (AR.or 5 18 23 [2, 3, 4, 15] (x := (b1.kind == kind1)) rfl rfl (fun h6 => ?_) (fun h6 => ?_) ?_))))
  ·
   refine AR.is 18 h6 rfl (cs 5 rfl (AR.nil [23, 2, 3, 4, 15] rfl ?_))
   exact ⟨rfl, rfl, rfl, rfl⟩
  ·
   refine AR.is 18 h6 rfl (cs 5 rfl (AR.nil [23, 2, 3, 4, 15] rfl ?_))
   exact ⟨rfl, rfl, rfl, rfl⟩
  obtain rfl := Option.some.inj h4
  refine cs 1 rfl (AR.nil [24, 2, 3, 4] rfl ?_)
  exact ⟨rfl, rfl, rfl, rfl⟩
 ·
  replace h4 := ite_F h3 h4
  refine AR.is 15 h3 rfl ?_
  obtain rfl := Option.some.inj h4
  refine cs 9 rfl (AR.nil [24, 2, 3, 4] rfl ?_)
  exact ⟨rfl, rfl, rfl, rfl⟩
 refine cs 1 rfl (AR.and 11 25 36 [] (x := ((a1.kind == kind1) || (b1.kind == kind1))) rfl rfl (fun h7 => ?_) (fun h7 => ?_) ?_)
 ·
  refine AR.is 25 h7 rfl (cs 5 rfl (AR.or 5 30 35 [25] (x := (b1.kind == kind1)) rfl rfl (fun h8 => ?_) (fun h8 => ?_) ?_))
  ·
   refine AR.is 30 h8 rfl (cs 5 rfl (AR.nil [35, 25] rfl ?_))
   exact ⟨rfl, rfl, rfl, rfl⟩
  ·
   refine AR.is 30 h8 rfl (cs 5 rfl (AR.nil [35, 25] rfl ?_))
   exact ⟨rfl, rfl, rfl, rfl⟩
  refine cs 1 rfl (AR.nil [36] rfl ?_)
  exact ⟨rfl, rfl, rfl, rfl⟩
 ·
  refine AR.is 25 h7 rfl (cs 11 rfl (AR.nil [36] rfl ?_))
  exact ⟨rfl, rfl, rfl, rfl⟩
 refine cs 1 rfl (AR.nil [6] rfl (AW.ret ?_))
 cases hf
 exact ⟨rfl, _, ⟨_, _, rfl, rfl, rfl⟩, [], List.nil_sublist _, h⟩

theorem c_check_element  (t1 : ApiType) {r0 : ApiType} (hf : check_element t1 = some r0) {τ : List Res} {Q : AOut → List Res → Prop} (h : Q (.ret (.agg [.int .i64 r0.kind, .list (ApiType.cellsL r0.elem)])) τ) : AC Tryz.prog 111 [.agg [.int .i64 t1.kind, .list (ApiType.cellsL t1.elem)]] τ Q := by
 unfold check_element at hf
 refine AC.none (AC.of_body 10 [.cell 2 39] [0] Tryz.func111 rfl rfl rfl rfl rfl (AW.sr (AR.step rfl rfl rfl (AO.box_ref rfl rfl rfl ?_))))
 refine AR.step rfl rfl rfl (AO.alloc_own rfl zp_39 (fun b2 => (AR.nil [1, 2] rfl (AW.seq (AW.sr ?_)))))
 refine cs 1 rfl ?_
 obtain ⟨x1, h1, hf⟩ := bind1_inv hf
 refine AR.step rfl rfl rfl (AO.call rfl _ rfl rfl pf_74 (c_check_loose _ h1 (AR.nil [1, 2, 4] rfl (AW.cond rfl (fun h2 => ?_) (fun h2 => ?_)))))
 ·
  replace hf := ite_T h2 hf
  refine AW.sr (cs 1 rfl (AR.step_none rfl rfl (AO.store_box (i := 0) rfl rfl rfl ti_39 rfl rfl rfl rfl rfl (AR.nil [2] rfl ?_))))
  refine AW.ret ?_
  cases hf
  exact ⟨rfl, _, ⟨_, _, rfl, ⟨_, _, 0, _, _, rfl, rfl, ti_39, rfl⟩, rfl⟩, [], List.nil_sublist _, h⟩
 ·
  replace hf := ite_F h2 hf
  refine AW.skip (AW.sr (cs 2 rfl ?_))
  replace hf := (bind1_ret _).trans hf
  obtain ⟨e1, h3, hf⟩ := bind1_inv hf
  refine AR.step rfl rfl rfl (AO.idx_list h3 rfl rfl (ApiType.cellsL_eq _) rfl es_37 (ApiType.cells_eq _) rfl (cs 1 rfl (AR.step_none rfl rfl (AO.store_box (i := 0) rfl rfl rfl ti_39 rfl rfl rfl rfl rfl (AR.nil [2] rfl ?_)))))
  refine AW.ret ?_
  cases hf
  exact ⟨rfl, _, ⟨_, _, rfl, ⟨_, _, 0, _, _, rfl, rfl, ti_39, rfl⟩, rfl⟩, [], List.nil_sublist _, h⟩

theorem c_typing_both  (a1 : ApiType) (b1 : ApiType) {r0 : Bool} (hf : typing_both a1 b1 = some r0) {τ : List Res} {Q : AOut → List Res → Prop} (h : Q (.ret (.bool r0)) τ) : AC Tryz.prog 50 [.agg [.int .i64 a1.kind, .list (ApiType.cellsL a1.elem)], .agg [.int .i64 b1.kind, .list (ApiType.cellsL b1.elem)]] τ Q := by
 unfold typing_both at hf
 refine AC.none (AC.of_body 13 [.tmp 4] [0, 1] Tryz.func50 rfl rfl rfl rfl rfl (AW.sr (AR.step rfl rfl rfl (AO.box_ref rfl rfl rfl ?_))))
 refine AR.step rfl rfl rfl (AO.box_ref rfl rfl rfl (cs 1 rfl (AR.nil [2, 3] rfl (AW.sr ?_))))
 refine cs 1 rfl ?_
 obtain ⟨x1, h1, hf⟩ := bind1_inv hf
 refine AR.step rfl rfl rfl (AO.call rfl _ rfl rfl pf_20 (c_typing_Valid _ h1 (cs 2 rfl ?_)))
 replace hf := (bind1_ret _).trans hf
 obtain ⟨b2, h3, hf⟩ := bind1_inv hf
 refine AR.join1 4 8 12 true [] b2 rfl rfl (fun h2 => ?_) (fun h2 => ?_) ?_
 ·
  replace h3 := ite_T h2 h3
  refine AR.is 8 h2 rfl (cs 1 rfl ?_)
  obtain ⟨x2, h4, h3⟩ := bind1_inv h3
  refine AR.go rfl rfl rfl rfl rfl rfl (AO.call rfl _ rfl rfl pf_20 (c_typing_Valid _ h4 (cs 1 rfl ?_)))
  obtain rfl := Option.some.inj h3
  refine cs 1 rfl (AR.nil [12] rfl ?_)
  exact ⟨rfl, rfl, rfl, rfl⟩
 ·
  replace h3 := ite_F h2 h3
  refine AR.is 8 h2 rfl ?_
  obtain rfl := Option.some.inj h3
  refine cs 4 rfl (AR.nil [12] rfl ?_)
  exact ⟨rfl, rfl, rfl, rfl⟩
 refine cs 1 rfl (AR.nil [4] rfl (AW.ret ?_))
 cases hf
 exact ⟨rfl, _, ⟨_, _, rfl, rfl, rfl⟩, [], List.nil_sublist _, h⟩

theorem c_typing_Join  (a1 : ApiType) (b1 : ApiType) {r0 : ApiType} (hf : typing_Join a1 b1 = some r0) {τ : List Res} {Q : AOut → List Res → Prop} (h : Q (.ret (.agg [.int .i64 r0.kind, .list (ApiType.cellsL r0.elem)])) τ) : AC Tryz.prog 24 [.agg [.int .i64 a1.kind, .list (ApiType.cellsL a1.elem)], .agg [.int .i64 b1.kind, .list (ApiType.cellsL b1.elem)]] τ Q := by
 unfold typing_Join at hf
 refine AC.none (AC.of_body 13 [.cell 4 39] [0, 1] Tryz.func24 rfl rfl rfl rfl rfl (AW.sr (AR.step rfl rfl rfl (AO.box_ref rfl rfl rfl ?_))))
 refine AR.step rfl rfl rfl (AO.box_ref rfl rfl rfl (AR.step rfl rfl rfl (AO.alloc_own rfl zp_39 (fun b4 => (AR.nil [2, 3, 4] rfl (AW.seq ?_))))))
 refine AW.sr (cs 2 rfl ?_)
 obtain ⟨x1, h1, hf⟩ := bind1_inv hf
 refine AR.step rfl rfl rfl (AO.call rfl _ rfl rfl pf_50 (c_typing_both _ _ h1 (cs 1 rfl (AR.nil [2, 3, 4, 8] rfl (AW.cond rfl (fun h2 => ?_) (fun h2 => ?_))))))
 ·
  replace hf := ite_T h2 hf
  refine AW.sr ?_
  replace hf := (bind1_ret _).trans hf
  obtain ⟨x2, h3, hf⟩ := bind1_inv hf
  refine AR.step rfl rfl rfl (AO.call rfl _ rfl rfl pf_51 (c_typing_scalar _ h3 (AR.step_none rfl rfl (AO.store_box (i := 0) rfl rfl rfl ti_39 rfl rfl rfl rfl rfl (AR.nil [4] rfl (AW.ret ?_))))))
  cases hf
  exact ⟨rfl, _, ⟨_, _, rfl, ⟨_, _, 0, _, _, rfl, rfl, ti_39, rfl⟩, rfl⟩, [], List.nil_sublist _, h⟩
 ·
  replace hf := ite_F h2 hf
  refine AW.skip (AW.sr (cs 2 rfl ?_))
  replace hf := (bind1_ret _).trans hf
  obtain ⟨x3, h4, hf⟩ := bind1_inv hf
  refine AR.step rfl rfl rfl (AO.call rfl _ rfl rfl pf_52 (c_typing_join _ _ h4 (AR.step_none rfl rfl (AO.store_box (i := 0) rfl rfl rfl ti_39 rfl rfl rfl rfl rfl (AR.nil [4] rfl (AW.ret ?_))))))
  cases hf
  exact ⟨rfl, _, ⟨_, _, rfl, ⟨_, _, 0, _, _, rfl, rfl, ti_39, rfl⟩, rfl⟩, [], List.nil_sublist _, h⟩

theorem c_check_sum  (a1 : ApiType) (b1 : ApiType) {r0 : ApiType} {r1 : Int} (hf : check_sum a1 b1 = some (r0, r1)) {τ : List Res} {Q : AOut → List Res → Prop} (h : Q (.ret (.tuple [.agg [.int .i64 r0.kind, .list (ApiType.cellsL r0.elem)], .int .i64 r1])) τ) : AC Tryz.prog 77 [.agg [.int .i64 a1.kind, .list (ApiType.cellsL a1.elem)], .agg [.int .i64 b1.kind, .list (ApiType.cellsL b1.elem)]] τ Q := by
 unfold check_sum at hf
 refine AC.none (AC.of_body 44 [.cell 4 39, .tmp 5] [0, 1] Tryz.func77 rfl rfl rfl rfl rfl (AW.sr (AR.step rfl rfl rfl (AO.box_ref rfl rfl rfl ?_))))
 refine AR.step rfl rfl rfl (AO.box_ref rfl rfl rfl (AR.step rfl rfl rfl (AO.alloc_own rfl zp_39 (fun b4 => (cs 1 rfl (AR.nil [2, 3, 4] rfl ?_))))))
 refine AW.seq (AW.block (AW.sr (cs 1 rfl ?_)))
 obtain ⟨x1, h1, hf⟩ := bind1_inv hf
 refine AR.step rfl rfl rfl (AO.call rfl _ rfl rfl pf_74 (c_check_loose _ h1 (cs 1 rfl ?_)))
 obtain ⟨b2, h3, hf⟩ := bind1_inv hf
 refine AR.join1 3 9 12 true [2, 3, 4] b2 rfl rfl (fun h2 => ?_) (fun h2 => ?_) ?_
 ·
  replace h3 := ite_T h2 h3
  refine AR.is 9 h2 rfl (cs 1 rfl ?_)
  replace h3 := (bind1_ret _).trans h3
  obtain ⟨x2, h4, h3⟩ := bind1_inv h3
  refine AR.go rfl rfl rfl rfl rfl rfl (AO.call rfl _ rfl rfl pf_74 (c_check_loose _ h4 ?_))
  obtain rfl := Option.some.inj h3
  refine cs 1 rfl (AR.nil [12, 2, 3, 4] rfl ?_)
  exact ⟨rfl, rfl, rfl, rfl⟩
 ·
  replace h3 := ite_F h2 h3
  refine AR.is 9 h2 rfl ?_
  obtain rfl := Option.some.inj h3
  refine cs 3 rfl (AR.nil [12, 2, 3, 4] rfl ?_)
  exact ⟨rfl, rfl, rfl, rfl⟩
 refine cs 1 rfl (AR.nil [2, 3, 4, 6] rfl (AW.cond rfl (fun h5 => ?_) (fun h5 => ?_)))
 ·
  replace hf := ite_T h5 hf
  refine AW.seq (AW.sr (cs 4 rfl (AR.or 4 16 20 [4] (x := (b1.kind == 0)) rfl rfl (fun h6 => ?_) (fun h6 => ?_) ?_)))
  ·
   refine AR.is 16 h6 rfl (cs 4 rfl (AR.nil [20, 4] rfl ?_))
   exact ⟨rfl, rfl, rfl, rfl⟩
  ·
   refine AR.is 16 h6 rfl (cs 4 rfl (AR.nil [20, 4] rfl ?_))
   exact ⟨rfl, rfl, rfl, rfl⟩
  refine AR.nil [4, 20] rfl (AW.cond rfl (fun h7 => ?_) (fun h7 => ?_))
  ·
   replace hf := ite_T h7 hf
   refine AW.sr ?_
   obtain ⟨x3, h8, hf⟩ := bind1_inv hf
   refine AR.step rfl rfl rfl (AO.call rfl _ rfl rfl pf_25 (c_check_of _ h8 (AR.step_none rfl rfl (AO.store_box (i := 0) rfl rfl rfl ti_39 rfl rfl rfl rfl rfl (cs 1 rfl (AR.nil [4, 5] rfl ?_))))))
   refine AW.ret ?_
   cases hf
   exact ⟨rfl, _, ⟨_, _, rfl, ⟨_, _, 0, _, _, rfl, rfl, ti_39, rfl⟩, _, _, rfl, rfl, rfl⟩, [], List.nil_sublist _, h⟩
  ·
   replace hf := ite_F h7 hf
   refine AW.skip (AW.sr ?_)
   obtain ⟨x4, h9, hf⟩ := bind1_inv hf
   refine AR.step rfl rfl rfl (AO.call rfl _ rfl rfl pf_25 (c_check_of _ h9 (AR.step_none rfl rfl (AO.store_box (i := 0) rfl rfl rfl ti_39 rfl rfl rfl rfl rfl (cs 1 rfl (AR.nil [4, 5] rfl ?_))))))
   refine AW.ret ?_
   cases hf
   exact ⟨rfl, _, ⟨_, _, rfl, ⟨_, _, 0, _, _, rfl, rfl, ti_39, rfl⟩, _, _, rfl, rfl, rfl⟩, [], List.nil_sublist _, h⟩
 ·
  replace hf := ite_F h5 hf
  refine AW.sr (cs 2 rfl ?_)
  obtain ⟨x5, h10, hf⟩ := bind1_inv hf
  refine AR.step rfl rfl rfl (AO.call rfl _ rfl rfl pf_76 (c_check_common _ _ _ h10 (cs 1 rfl (AR.nil [2, 3, 4, 23] rfl (AW.cond rfl (fun h11 => ?_) (fun h11 => ?_))))))
  ·
   replace hf := ite_T h11 hf
   refine AW.sr ?_
   obtain ⟨x6, h12, hf⟩ := bind1_inv hf
   refine AR.step rfl rfl rfl (AO.call rfl _ rfl rfl pf_25 (c_check_of _ h12 (AR.step_none rfl rfl (AO.store_box (i := 0) rfl rfl rfl ti_39 rfl rfl rfl rfl rfl (cs 1 rfl (AR.nil [4, 5] rfl ?_))))))
   refine AW.ret ?_
   cases hf
   exact ⟨rfl, _, ⟨_, _, rfl, ⟨_, _, 0, _, _, rfl, rfl, ti_39, rfl⟩, _, _, rfl, rfl, rfl⟩, [], List.nil_sublist _, h⟩
  ·
   replace hf := ite_F h11 hf
   refine AW.sr (cs 2 rfl ?_)
   obtain ⟨x7, h13, hf⟩ := bind1_inv hf
   refine AR.step rfl rfl rfl (AO.call rfl _ rfl rfl pf_76 (c_check_common _ _ _ h13 (cs 1 rfl (AR.nil [2, 3, 4, 28] rfl (AW.cond rfl (fun h14 => ?_) (fun h14 => ?_))))))
   ·
    replace hf := ite_T h14 hf
    refine AW.sr ?_
    obtain ⟨x8, h15, hf⟩ := bind1_inv hf
    refine AR.step rfl rfl rfl (AO.call rfl _ rfl rfl pf_25 (c_check_of _ h15 (AR.step_none rfl rfl (AO.store_box (i := 0) rfl rfl rfl ti_39 rfl rfl rfl rfl rfl (cs 1 rfl (AR.nil [4, 5] rfl ?_))))))
    refine AW.ret ?_
    cases hf
    exact ⟨rfl, _, ⟨_, _, rfl, ⟨_, _, 0, _, _, rfl, rfl, ti_39, rfl⟩, _, _, rfl, rfl, rfl⟩, [], List.nil_sublist _, h⟩
   ·
    replace hf := ite_F h14 hf
    refine AW.sr (cs 2 rfl ?_)
    obtain ⟨x9, h16, hf⟩ := bind1_inv hf
    refine AR.step rfl rfl rfl (AO.call rfl _ rfl rfl pf_76 (c_check_common _ _ _ h16 (cs 1 rfl (AR.nil [2, 3, 4, 33] rfl (AW.cond rfl (fun h17 => ?_) (fun h17 => ?_))))))
    ·
     replace hf := ite_T h17 hf
     refine AW.seq (AW.draw 6 mixed (by kernel_rfl) rfl ?_)
     refine Ev.cs FX_ok 1 rfl ?_
     obtain ⟨x10, h18, hf⟩ := bind1_inv hf
     refine Ev.cons rfl rfl rfl (AO.call rfl _ rfl rfl pf_111 (c_check_element _ h18 ⟨rfl, rfl⟩)) (Ev.cs FX_ok 1 rfl ?_)
     obtain ⟨x11, h19, hf⟩ := bind1_inv hf
     refine Ev.cons rfl rfl rfl (AO.call rfl _ rfl rfl pf_111 (c_check_element _ h19 ⟨rfl, rfl⟩)) ?_
     obtain ⟨x12, h20, hf⟩ := bind1_inv hf
     refine Ev.cons rfl rfl rfl (AO.call rfl _ rfl rfl pf_24 (c_typing_Join _ _ h20 ⟨rfl, rfl⟩)) ?_
     obtain ⟨x13, h21, hf⟩ := bind1_inv hf
     refine Ev.cons rfl rfl rfl (AO.call rfl _ rfl rfl pf_78 (c_check_nested _ _ h21 ⟨rfl, rfl⟩)) (Ev.nil ?_)
     show AR _ _ _ _ _ _ _ _
     refine AR.step_none rfl rfl (AO.store_box (i := 0) rfl rfl rfl ti_39 rfl rfl rfl rfl rfl (cs 1 rfl (AR.nil [4, 5] rfl (AW.ret ?_))))
     cases hf
     exact ⟨rfl, _, ⟨_, _, rfl, ⟨_, _, 0, _, _, rfl, rfl, ti_39, rfl⟩, _, _, rfl, rfl, rfl⟩, [], List.nil_sublist _, h⟩
    ·
     replace hf := ite_F h17 hf
     refine AW.skip (AW.sr (AR.step rfl rfl rfl (AO.build rfl zp_39 spl_39 rfl (AR.step_none rfl rfl (AO.store_box (i := 0) rfl rfl rfl ti_39 rfl rfl rfl rfl rfl ?_)))))
     refine cs 1 rfl (AR.nil [4, 5] rfl (AW.ret ?_))
     cases hf
     exact ⟨rfl, _, ⟨_, _, rfl, ⟨_, _, 0, _, _, rfl, rfl, ti_39, rfl⟩, _, _, rfl, rfl, rfl⟩, [], List.nil_sublist _, h⟩

theorem c_check_binary  (op1 : Str) (a1 : ApiType) (b1 : ApiType) {r0 : ApiType} {r1 : Int} (hf : check_binary op1 a1 b1 = some (r0, r1)) {τ : List Res} {Q : AOut → List Res → Prop} (h : Q (.ret (.tuple [.agg [.int .i64 r0.kind, .list (ApiType.cellsL r0.elem)], .int .i64 r1])) τ) : AC Tryz.prog 47 [.str op1, .agg [.int .i64 a1.kind, .list (ApiType.cellsL a1.elem)], .agg [.int .i64 b1.kind, .list (ApiType.cellsL b1.elem)]] τ Q := by
 unfold check_binary at hf
 refine AC.none (AC.of_body 59 [.cell 6 39, .tmp 7] [0, 1, 2] Tryz.func47 rfl rfl rfl rfl rfl (AW.sr (AR.step rfl rfl rfl (AO.box_ref rfl rfl rfl ?_))))
 refine AR.step rfl rfl rfl (AO.box_ref rfl rfl rfl (AR.step rfl rfl rfl (AO.alloc_own rfl zp_39 (fun b6 => (cs 1 rfl (AR.nil [0, 4, 5, 6] rfl ?_))))))
 refine AW.sr (cs 2 rfl (AR.nil [0, 4, 5, 6, 8] rfl (AW.seq ?_)))
 refine AW.sr (cs 1 rfl (AR.nil [4, 5, 6, 8, 10] rfl (AW.block ?_)))
 refine AW.seq (AW.sr (cs 2 rfl (AR.nil [4, 5, 6, 8, 10, 11] rfl ?_)))
 refine AW.cond rfl (fun h1 => ?_) (fun h1 => ?_)
 ·
  replace hf := ite_T h1 hf
  refine AW.skip (AW.cond rfl (fun h2 => ?_) (fun h2 => ?_))
  ·
   refine AW.sr (cs 1 rfl ?_)
   obtain ⟨x1, h3, hf⟩ := bind1_inv hf
   refine AR.step rfl rfl rfl (AO.call rfl _ rfl rfl pf_75 (c_check_binary_1 _ _ _ h3 (AR.nil [6, 15] rfl (AW.cond rfl (fun h4 => ?_) (fun h4 => ?_)))))
   ·
    replace hf := ite_T h4 hf
    refine AW.sr ?_
    obtain ⟨x2, h5, hf⟩ := bind1_inv hf
    refine AR.step rfl rfl rfl (AO.call rfl _ rfl rfl pf_25 (c_check_of _ h5 (AR.step_none rfl rfl (AO.store_box (i := 0) rfl rfl rfl ti_39 rfl rfl rfl rfl rfl (cs 1 rfl (AR.nil [6, 7] rfl ?_))))))
    refine AW.ret ?_
    cases hf
    exact ⟨rfl, _, ⟨_, _, rfl, ⟨_, _, 0, _, _, rfl, rfl, ti_39, rfl⟩, _, _, rfl, rfl, rfl⟩, [], List.nil_sublist _, h⟩
   ·
    replace hf := ite_F h4 hf
    refine AW.skip (AW.sr (AR.step rfl rfl rfl (AO.build rfl zp_39 spl_39 rfl (AR.step_none rfl rfl (AO.store_box (i := 0) rfl rfl rfl ti_39 rfl rfl rfl rfl rfl ?_)))))
    refine cs 1 rfl (AR.nil [6, 7] rfl (AW.ret ?_))
    cases hf
    exact ⟨rfl, _, ⟨_, _, rfl, ⟨_, _, 0, _, _, rfl, rfl, ti_39, rfl⟩, _, _, rfl, rfl, rfl⟩, [], List.nil_sublist _, h⟩
  ·
   cases h1.symm.trans h2
 ·
  replace hf := ite_F h1 hf
  refine AW.region (cs 2 rfl (AR.nil [4, 5, 6, 8, 10, 11] rfl (AW.cond rfl (fun h6 => ?_) (fun h6 => ?_))))
  ·
   replace hf := ite_T h6 hf
   refine AW.sr (cs 1 rfl ?_)
   obtain ⟨x3, h7, hf⟩ := bind1_inv hf
   refine AR.step rfl rfl rfl (AO.call rfl _ rfl rfl pf_75 (c_check_binary_1 _ _ _ h7 (AR.nil [6, 15] rfl (AW.cond rfl (fun h8 => ?_) (fun h8 => ?_)))))
   ·
    replace hf := ite_T h8 hf
    refine AW.sr ?_
    obtain ⟨x4, h9, hf⟩ := bind1_inv hf
    refine AR.step rfl rfl rfl (AO.call rfl _ rfl rfl pf_25 (c_check_of _ h9 (AR.step_none rfl rfl (AO.store_box (i := 0) rfl rfl rfl ti_39 rfl rfl rfl rfl rfl (cs 1 rfl (AR.nil [6, 7] rfl ?_))))))
    refine AW.ret ?_
    cases hf
    exact ⟨rfl, _, ⟨_, _, rfl, ⟨_, _, 0, _, _, rfl, rfl, ti_39, rfl⟩, _, _, rfl, rfl, rfl⟩, [], List.nil_sublist _, h⟩
   ·
    replace hf := ite_F h8 hf
    refine AW.skip (AW.sr (AR.step rfl rfl rfl (AO.build rfl zp_39 spl_39 rfl (AR.step_none rfl rfl (AO.store_box (i := 0) rfl rfl rfl ti_39 rfl rfl rfl rfl rfl ?_)))))
    refine cs 1 rfl (AR.nil [6, 7] rfl (AW.ret ?_))
    cases hf
    exact ⟨rfl, _, ⟨_, _, rfl, ⟨_, _, 0, _, _, rfl, rfl, ti_39, rfl⟩, _, _, rfl, rfl, rfl⟩, [], List.nil_sublist _, h⟩
  ·
   replace hf := ite_F h6 hf
   refine AW.seq (AW.sr (cs 2 rfl (AR.nil [4, 5, 6, 8, 10, 17] rfl ?_)))
   refine AW.cond rfl (fun h10 => ?_) (fun h10 => ?_)
   ·
    replace hf := ite_T h10 hf
    refine AW.skip (AW.cond rfl (fun h11 => ?_) (fun h11 => ?_))
    ·
     refine AW.sr ?_
     obtain ⟨x5, h12, hf⟩ := bind1_inv hf
     refine AR.step rfl rfl rfl (AO.call rfl _ rfl rfl pf_25 (c_check_of _ h12 (AR.step_none rfl rfl (AO.store_box (i := 0) rfl rfl rfl ti_39 rfl rfl rfl rfl rfl (cs 1 rfl (AR.nil [6, 7] rfl ?_))))))
     refine AW.ret ?_
     cases hf
     exact ⟨rfl, _, ⟨_, _, rfl, ⟨_, _, 0, _, _, rfl, rfl, ti_39, rfl⟩, _, _, rfl, rfl, rfl⟩, [], List.nil_sublist _, h⟩
    ·
     cases h10.symm.trans h11
   ·
    replace hf := ite_F h10 hf
    refine AW.region (cs 2 rfl (AR.nil [4, 5, 6, 8, 10, 17] rfl (AW.cond rfl (fun h13 => ?_) (fun h13 => ?_))))
    ·
     replace hf := ite_T h13 hf
     refine AW.sr ?_
     obtain ⟨x6, h14, hf⟩ := bind1_inv hf
     refine AR.step rfl rfl rfl (AO.call rfl _ rfl rfl pf_25 (c_check_of _ h14 (AR.step_none rfl rfl (AO.store_box (i := 0) rfl rfl rfl ti_39 rfl rfl rfl rfl rfl (cs 1 rfl (AR.nil [6, 7] rfl ?_))))))
     refine AW.ret ?_
     cases hf
     exact ⟨rfl, _, ⟨_, _, rfl, ⟨_, _, 0, _, _, rfl, rfl, ti_39, rfl⟩, _, _, rfl, rfl, rfl⟩, [], List.nil_sublist _, h⟩
    ·
     replace hf := ite_F h13 hf
     refine AW.seq (AW.sr (cs 2 rfl (AR.nil [4, 5, 6, 8, 10, 21] rfl ?_)))
     refine AW.cond rfl (fun h15 => ?_) (fun h15 => ?_)
     ·
      replace hf := ite_T h15 hf
      refine AW.skip (AW.cond rfl (fun h16 => ?_) (fun h16 => ?_))
      ·
       refine AW.sr (cs 1 rfl ?_)
       obtain ⟨x7, h17, hf⟩ := bind1_inv hf
       refine AR.step rfl rfl rfl (AO.call rfl _ rfl rfl pf_74 (c_check_loose _ h17 (cs 1 rfl ?_)))
       obtain ⟨b2, h19, hf⟩ := bind1_inv hf
       refine AR.join1 3 28 31 true [4, 5, 6] b2 rfl rfl (fun h18 => ?_) (fun h18 => ?_) ?_
       ·
        replace h19 := ite_T h18 h19
        refine AR.is 28 h18 rfl (cs 1 rfl ?_)
        replace h19 := (bind1_ret _).trans h19
        obtain ⟨x8, h20, h19⟩ := bind1_inv h19
        refine AR.go rfl rfl rfl rfl rfl rfl (AO.call rfl _ rfl rfl pf_74 (c_check_loose _ h20 ?_))
        obtain rfl := Option.some.inj h19
        refine cs 1 rfl (AR.nil [31, 4, 5, 6] rfl ?_)
        exact ⟨rfl, rfl, rfl, rfl⟩
       ·
        replace h19 := ite_F h18 h19
        refine AR.is 28 h18 rfl ?_
        obtain rfl := Option.some.inj h19
        refine cs 3 rfl (AR.nil [31, 4, 5, 6] rfl ?_)
        exact ⟨rfl, rfl, rfl, rfl⟩
       refine cs 1 rfl ?_
       obtain ⟨b3, h22, hf⟩ := bind1_inv hf
       refine AR.join1 4 32 36 false [4, 5, 6] b3 rfl rfl (fun h21 => ?_) (fun h21 => ?_) ?_
       ·
        replace h22 := ite_F h21 h22
        refine AR.is 32 h21 rfl (cs 2 rfl ?_)
        replace h22 := (bind1_ret _).trans h22
        obtain ⟨x9, h23, h22⟩ := bind1_inv h22
        refine AR.go rfl rfl rfl rfl rfl rfl (AO.call rfl _ rfl rfl pf_76 (c_check_common _ _ _ h23 ?_))
        obtain rfl := Option.some.inj h22
        refine cs 1 rfl (AR.nil [36, 4, 5, 6] rfl ?_)
        exact ⟨rfl, rfl, rfl, rfl⟩
       ·
        replace h22 := ite_T h21 h22
        refine AR.is 32 h21 rfl ?_
        obtain rfl := Option.some.inj h22
        refine cs 4 rfl (AR.nil [36, 4, 5, 6] rfl ?_)
        exact ⟨rfl, rfl, rfl, rfl⟩
       refine cs 1 rfl ?_
       obtain ⟨b4, h25, hf⟩ := bind1_inv hf
       refine AR.join1 4 37 41 false [6] b4 rfl rfl (fun h24 => ?_) (fun h24 => ?_) ?_
       ·
        replace h25 := ite_F h24 h25
        refine AR.is 37 h24 rfl (cs 2 rfl ?_)
        replace h25 := (bind1_ret _).trans h25
        obtain ⟨x10, h26, h25⟩ := bind1_inv h25
        refine AR.go rfl rfl rfl rfl rfl rfl (AO.call rfl _ rfl rfl pf_76 (c_check_common _ _ _ h26 ?_))
        obtain rfl := Option.some.inj h25
        refine cs 1 rfl (AR.nil [41, 6] rfl ?_)
        exact ⟨rfl, rfl, rfl, rfl⟩
       ·
        replace h25 := ite_T h24 h25
        refine AR.is 37 h24 rfl ?_
        obtain rfl := Option.some.inj h25
        refine cs 4 rfl (AR.nil [41, 6] rfl ?_)
        exact ⟨rfl, rfl, rfl, rfl⟩
       refine AR.nil [6, 41] rfl (AW.cond rfl (fun h27 => ?_) (fun h27 => ?_))
       ·
        replace hf := ite_T h27 hf
        refine AW.sr ?_
        obtain ⟨x11, h28, hf⟩ := bind1_inv hf
        refine AR.step rfl rfl rfl (AO.call rfl _ rfl rfl pf_25 (c_check_of _ h28 (AR.step_none rfl rfl (AO.store_box (i := 0) rfl rfl rfl ti_39 rfl rfl rfl rfl rfl (cs 1 rfl (AR.nil [6, 7] rfl ?_))))))
        refine AW.ret ?_
        cases hf
        exact ⟨rfl, _, ⟨_, _, rfl, ⟨_, _, 0, _, _, rfl, rfl, ti_39, rfl⟩, _, _, rfl, rfl, rfl⟩, [], List.nil_sublist _, h⟩
       ·
        replace hf := ite_F h27 hf
        refine AW.skip (AW.sr (AR.step rfl rfl rfl (AO.build rfl zp_39 spl_39 rfl (AR.step_none rfl rfl (AO.store_box (i := 0) rfl rfl rfl ti_39 rfl rfl rfl rfl rfl ?_)))))
        refine cs 1 rfl (AR.nil [6, 7] rfl (AW.ret ?_))
        cases hf
        exact ⟨rfl, _, ⟨_, _, rfl, ⟨_, _, 0, _, _, rfl, rfl, ti_39, rfl⟩, _, _, rfl, rfl, rfl⟩, [], List.nil_sublist _, h⟩
      ·
       cases h15.symm.trans h16
     ·
      replace hf := ite_F h15 hf
      refine AW.sr (cs 2 rfl (AR.nil [4, 5, 6, 8, 10, 21] rfl (AW.cond rfl (fun h29 => ?_) (fun h29 => ?_))))
      ·
       replace hf := ite_T h29 hf
       refine AW.skip (AW.cond rfl (fun h30 => ?_) (fun h30 => ?_))
       ·
        refine AW.sr (cs 1 rfl ?_)
        obtain ⟨x12, h31, hf⟩ := bind1_inv hf
        refine AR.step rfl rfl rfl (AO.call rfl _ rfl rfl pf_74 (c_check_loose _ h31 (cs 1 rfl ?_)))
        obtain ⟨b5, h33, hf⟩ := bind1_inv hf
        refine AR.join1 3 28 31 true [4, 5, 6] b5 rfl rfl (fun h32 => ?_) (fun h32 => ?_) ?_
        ·
         replace h33 := ite_T h32 h33
         refine AR.is 28 h32 rfl (cs 1 rfl ?_)
         replace h33 := (bind1_ret _).trans h33
         obtain ⟨x13, h34, h33⟩ := bind1_inv h33
         refine AR.go rfl rfl rfl rfl rfl rfl (AO.call rfl _ rfl rfl pf_74 (c_check_loose _ h34 ?_))
         obtain rfl := Option.some.inj h33
         refine cs 1 rfl (AR.nil [31, 4, 5, 6] rfl ?_)
         exact ⟨rfl, rfl, rfl, rfl⟩
        ·
         replace h33 := ite_F h32 h33
         refine AR.is 28 h32 rfl ?_
         obtain rfl := Option.some.inj h33
         refine cs 3 rfl (AR.nil [31, 4, 5, 6] rfl ?_)
         exact ⟨rfl, rfl, rfl, rfl⟩
        refine cs 1 rfl ?_
        obtain ⟨b6, h36, hf⟩ := bind1_inv hf
        refine AR.join1 4 32 36 false [4, 5, 6] b6 rfl rfl (fun h35 => ?_) (fun h35 => ?_) ?_
        ·
         replace h36 := ite_F h35 h36
         refine AR.is 32 h35 rfl (cs 2 rfl ?_)
         replace h36 := (bind1_ret _).trans h36
         obtain ⟨x14, h37, h36⟩ := bind1_inv h36
         refine AR.go rfl rfl rfl rfl rfl rfl (AO.call rfl _ rfl rfl pf_76 (c_check_common _ _ _ h37 ?_))
         obtain rfl := Option.some.inj h36
         refine cs 1 rfl (AR.nil [36, 4, 5, 6] rfl ?_)
         exact ⟨rfl, rfl, rfl, rfl⟩
        ·
         replace h36 := ite_T h35 h36
         refine AR.is 32 h35 rfl ?_
         obtain rfl := Option.some.inj h36
         refine cs 4 rfl (AR.nil [36, 4, 5, 6] rfl ?_)
         exact ⟨rfl, rfl, rfl, rfl⟩
        refine cs 1 rfl ?_
        obtain ⟨b7, h39, hf⟩ := bind1_inv hf
        refine AR.join1 4 37 41 false [6] b7 rfl rfl (fun h38 => ?_) (fun h38 => ?_) ?_
        ·
         replace h39 := ite_F h38 h39
         refine AR.is 37 h38 rfl (cs 2 rfl ?_)
         replace h39 := (bind1_ret _).trans h39
         obtain ⟨x15, h40, h39⟩ := bind1_inv h39
         refine AR.go rfl rfl rfl rfl rfl rfl (AO.call rfl _ rfl rfl pf_76 (c_check_common _ _ _ h40 ?_))
         obtain rfl := Option.some.inj h39
         refine cs 1 rfl (AR.nil [41, 6] rfl ?_)
         exact ⟨rfl, rfl, rfl, rfl⟩
        ·
         replace h39 := ite_T h38 h39
         refine AR.is 37 h38 rfl ?_
         obtain rfl := Option.some.inj h39
         refine cs 4 rfl (AR.nil [41, 6] rfl ?_)
         exact ⟨rfl, rfl, rfl, rfl⟩
        refine AR.nil [6, 41] rfl (AW.cond rfl (fun h41 => ?_) (fun h41 => ?_))
        ·
         replace hf := ite_T h41 hf
         refine AW.sr ?_
         obtain ⟨x16, h42, hf⟩ := bind1_inv hf
         refine AR.step rfl rfl rfl (AO.call rfl _ rfl rfl pf_25 (c_check_of _ h42 (AR.step_none rfl rfl (AO.store_box (i := 0) rfl rfl rfl ti_39 rfl rfl rfl rfl rfl (cs 1 rfl (AR.nil [6, 7] rfl ?_))))))
         refine AW.ret ?_
         cases hf
         exact ⟨rfl, _, ⟨_, _, rfl, ⟨_, _, 0, _, _, rfl, rfl, ti_39, rfl⟩, _, _, rfl, rfl, rfl⟩, [], List.nil_sublist _, h⟩
        ·
         replace hf := ite_F h41 hf
         refine AW.skip (AW.sr (AR.step rfl rfl rfl (AO.build rfl zp_39 spl_39 rfl (AR.step_none rfl rfl (AO.store_box (i := 0) rfl rfl rfl ti_39 rfl rfl rfl rfl rfl ?_)))))
         refine cs 1 rfl (AR.nil [6, 7] rfl (AW.ret ?_))
         cases hf
         exact ⟨rfl, _, ⟨_, _, rfl, ⟨_, _, 0, _, _, rfl, rfl, ti_39, rfl⟩, _, _, rfl, rfl, rfl⟩, [], List.nil_sublist _, h⟩
       ·
        cases h29.symm.trans h30
      ·
       replace hf := ite_F h29 hf
       refine AW.sr (cs 2 rfl (AR.nil [4, 5, 6, 8, 10, 21] rfl (AW.cond rfl (fun h43 => ?_) (fun h43 => ?_))))
       ·
        replace hf := ite_T h43 hf
        refine AW.skip (AW.cond rfl (fun h44 => ?_) (fun h44 => ?_))
        ·
         refine AW.sr (cs 1 rfl ?_)
         obtain ⟨x17, h45, hf⟩ := bind1_inv hf
         refine AR.step rfl rfl rfl (AO.call rfl _ rfl rfl pf_74 (c_check_loose _ h45 (cs 1 rfl ?_)))
         obtain ⟨b8, h47, hf⟩ := bind1_inv hf
         refine AR.join1 3 28 31 true [4, 5, 6] b8 rfl rfl (fun h46 => ?_) (fun h46 => ?_) ?_
         ·
          replace h47 := ite_T h46 h47
          refine AR.is 28 h46 rfl (cs 1 rfl ?_)
          replace h47 := (bind1_ret _).trans h47
          obtain ⟨x18, h48, h47⟩ := bind1_inv h47
          refine AR.go rfl rfl rfl rfl rfl rfl (AO.call rfl _ rfl rfl pf_74 (c_check_loose _ h48 ?_))
          obtain rfl := Option.some.inj h47
          refine cs 1 rfl (AR.nil [31, 4, 5, 6] rfl ?_)
          exact ⟨rfl, rfl, rfl, rfl⟩
         ·
          replace h47 := ite_F h46 h47
          refine AR.is 28 h46 rfl ?_
          obtain rfl := Option.some.inj h47
          refine cs 3 rfl (AR.nil [31, 4, 5, 6] rfl ?_)
          exact ⟨rfl, rfl, rfl, rfl⟩
         refine cs 1 rfl ?_
         obtain ⟨b9, h50, hf⟩ := bind1_inv hf
         refine AR.join1 4 32 36 false [4, 5, 6] b9 rfl rfl (fun h49 => ?_) (fun h49 => ?_) ?_
         ·
          replace h50 := ite_F h49 h50
          refine AR.is 32 h49 rfl (cs 2 rfl ?_)
          replace h50 := (bind1_ret _).trans h50
          obtain ⟨x19, h51, h50⟩ := bind1_inv h50
          refine AR.go rfl rfl rfl rfl rfl rfl (AO.call rfl _ rfl rfl pf_76 (c_check_common _ _ _ h51 ?_))
          obtain rfl := Option.some.inj h50
          refine cs 1 rfl (AR.nil [36, 4, 5, 6] rfl ?_)
          exact ⟨rfl, rfl, rfl, rfl⟩
         ·
          replace h50 := ite_T h49 h50
          refine AR.is 32 h49 rfl ?_
          obtain rfl := Option.some.inj h50
          refine cs 4 rfl (AR.nil [36, 4, 5, 6] rfl ?_)
          exact ⟨rfl, rfl, rfl, rfl⟩
         refine cs 1 rfl ?_
         obtain ⟨b10, h53, hf⟩ := bind1_inv hf
         refine AR.join1 4 37 41 false [6] b10 rfl rfl (fun h52 => ?_) (fun h52 => ?_) ?_
         ·
          replace h53 := ite_F h52 h53
          refine AR.is 37 h52 rfl (cs 2 rfl ?_)
          replace h53 := (bind1_ret _).trans h53
          obtain ⟨x20, h54, h53⟩ := bind1_inv h53
          refine AR.go rfl rfl rfl rfl rfl rfl (AO.call rfl _ rfl rfl pf_76 (c_check_common _ _ _ h54 ?_))
          obtain rfl := Option.some.inj h53
          refine cs 1 rfl (AR.nil [41, 6] rfl ?_)
          exact ⟨rfl, rfl, rfl, rfl⟩
         ·
          replace h53 := ite_T h52 h53
          refine AR.is 37 h52 rfl ?_
          obtain rfl := Option.some.inj h53
          refine cs 4 rfl (AR.nil [41, 6] rfl ?_)
          exact ⟨rfl, rfl, rfl, rfl⟩
         refine AR.nil [6, 41] rfl (AW.cond rfl (fun h55 => ?_) (fun h55 => ?_))
         ·
          replace hf := ite_T h55 hf
          refine AW.sr ?_
          obtain ⟨x21, h56, hf⟩ := bind1_inv hf
          refine AR.step rfl rfl rfl (AO.call rfl _ rfl rfl pf_25 (c_check_of _ h56 (AR.step_none rfl rfl (AO.store_box (i := 0) rfl rfl rfl ti_39 rfl rfl rfl rfl rfl (cs 1 rfl (AR.nil [6, 7] rfl ?_))))))
          refine AW.ret ?_
          cases hf
          exact ⟨rfl, _, ⟨_, _, rfl, ⟨_, _, 0, _, _, rfl, rfl, ti_39, rfl⟩, _, _, rfl, rfl, rfl⟩, [], List.nil_sublist _, h⟩
         ·
          replace hf := ite_F h55 hf
          refine AW.skip (AW.sr (AR.step rfl rfl rfl (AO.build rfl zp_39 spl_39 rfl (AR.step_none rfl rfl (AO.store_box (i := 0) rfl rfl rfl ti_39 rfl rfl rfl rfl rfl ?_)))))
          refine cs 1 rfl (AR.nil [6, 7] rfl (AW.ret ?_))
          cases hf
          exact ⟨rfl, _, ⟨_, _, rfl, ⟨_, _, 0, _, _, rfl, rfl, ti_39, rfl⟩, _, _, rfl, rfl, rfl⟩, [], List.nil_sublist _, h⟩
        ·
         cases h43.symm.trans h44
       ·
        replace hf := ite_F h43 hf
        refine AW.region (cs 2 rfl (AR.nil [4, 5, 6, 8, 10, 21] rfl (AW.cond rfl (fun h57 => ?_) (fun h57 => ?_))))
        ·
         replace hf := ite_T h57 hf
         refine AW.sr (cs 1 rfl ?_)
         obtain ⟨x22, h58, hf⟩ := bind1_inv hf
         refine AR.step rfl rfl rfl (AO.call rfl _ rfl rfl pf_74 (c_check_loose _ h58 (cs 1 rfl ?_)))
         obtain ⟨b11, h60, hf⟩ := bind1_inv hf
         refine AR.join1 3 28 31 true [4, 5, 6] b11 rfl rfl (fun h59 => ?_) (fun h59 => ?_) ?_
         ·
          replace h60 := ite_T h59 h60
          refine AR.is 28 h59 rfl (cs 1 rfl ?_)
          replace h60 := (bind1_ret _).trans h60
          obtain ⟨x23, h61, h60⟩ := bind1_inv h60
          refine AR.go rfl rfl rfl rfl rfl rfl (AO.call rfl _ rfl rfl pf_74 (c_check_loose _ h61 ?_))
          obtain rfl := Option.some.inj h60
          refine cs 1 rfl (AR.nil [31, 4, 5, 6] rfl ?_)
          exact ⟨rfl, rfl, rfl, rfl⟩
         ·
          replace h60 := ite_F h59 h60
          refine AR.is 28 h59 rfl ?_
          obtain rfl := Option.some.inj h60
          refine cs 3 rfl (AR.nil [31, 4, 5, 6] rfl ?_)
          exact ⟨rfl, rfl, rfl, rfl⟩
         refine cs 1 rfl ?_
         obtain ⟨b12, h63, hf⟩ := bind1_inv hf
         refine AR.join1 4 32 36 false [4, 5, 6] b12 rfl rfl (fun h62 => ?_) (fun h62 => ?_) ?_
         ·
          replace h63 := ite_F h62 h63
          refine AR.is 32 h62 rfl (cs 2 rfl ?_)
          replace h63 := (bind1_ret _).trans h63
          obtain ⟨x24, h64, h63⟩ := bind1_inv h63
          refine AR.go rfl rfl rfl rfl rfl rfl (AO.call rfl _ rfl rfl pf_76 (c_check_common _ _ _ h64 ?_))
          obtain rfl := Option.some.inj h63
          refine cs 1 rfl (AR.nil [36, 4, 5, 6] rfl ?_)
          exact ⟨rfl, rfl, rfl, rfl⟩
         ·
          replace h63 := ite_T h62 h63
          refine AR.is 32 h62 rfl ?_
          obtain rfl := Option.some.inj h63
          refine cs 4 rfl (AR.nil [36, 4, 5, 6] rfl ?_)
          exact ⟨rfl, rfl, rfl, rfl⟩
         refine cs 1 rfl ?_
         obtain ⟨b13, h66, hf⟩ := bind1_inv hf
         refine AR.join1 4 37 41 false [6] b13 rfl rfl (fun h65 => ?_) (fun h65 => ?_) ?_
         ·
          replace h66 := ite_F h65 h66
          refine AR.is 37 h65 rfl (cs 2 rfl ?_)
          replace h66 := (bind1_ret _).trans h66
          obtain ⟨x25, h67, h66⟩ := bind1_inv h66
          refine AR.go rfl rfl rfl rfl rfl rfl (AO.call rfl _ rfl rfl pf_76 (c_check_common _ _ _ h67 ?_))
          obtain rfl := Option.some.inj h66
          refine cs 1 rfl (AR.nil [41, 6] rfl ?_)
          exact ⟨rfl, rfl, rfl, rfl⟩
         ·
          replace h66 := ite_T h65 h66
          refine AR.is 37 h65 rfl ?_
          obtain rfl := Option.some.inj h66
          refine cs 4 rfl (AR.nil [41, 6] rfl ?_)
          exact ⟨rfl, rfl, rfl, rfl⟩
         refine AR.nil [6, 41] rfl (AW.cond rfl (fun h68 => ?_) (fun h68 => ?_))
         ·
          replace hf := ite_T h68 hf
          refine AW.sr ?_
          obtain ⟨x26, h69, hf⟩ := bind1_inv hf
          refine AR.step rfl rfl rfl (AO.call rfl _ rfl rfl pf_25 (c_check_of _ h69 (AR.step_none rfl rfl (AO.store_box (i := 0) rfl rfl rfl ti_39 rfl rfl rfl rfl rfl (cs 1 rfl (AR.nil [6, 7] rfl ?_))))))
          refine AW.ret ?_
          cases hf
          exact ⟨rfl, _, ⟨_, _, rfl, ⟨_, _, 0, _, _, rfl, rfl, ti_39, rfl⟩, _, _, rfl, rfl, rfl⟩, [], List.nil_sublist _, h⟩
         ·
          replace hf := ite_F h68 hf
          refine AW.skip (AW.sr (AR.step rfl rfl rfl (AO.build rfl zp_39 spl_39 rfl (AR.step_none rfl rfl (AO.store_box (i := 0) rfl rfl rfl ti_39 rfl rfl rfl rfl rfl ?_)))))
          refine cs 1 rfl (AR.nil [6, 7] rfl (AW.ret ?_))
          cases hf
          exact ⟨rfl, _, ⟨_, _, rfl, ⟨_, _, 0, _, _, rfl, rfl, ti_39, rfl⟩, _, _, rfl, rfl, rfl⟩, [], List.nil_sublist _, h⟩
        ·
         replace hf := ite_F h57 hf
         refine AW.seq (AW.sr (cs 2 rfl (AR.nil [4, 5, 6, 8, 10, 43] rfl ?_)))
         refine AW.cond rfl (fun h70 => ?_) (fun h70 => ?_)
         ·
          replace hf := ite_T h70 hf
          refine AW.skip (AW.cond rfl (fun h71 => ?_) (fun h71 => ?_))
          ·
           refine AW.sr (cs 1 rfl ?_)
           obtain ⟨x27, h72, hf⟩ := bind1_inv hf
           refine AR.step rfl rfl rfl (AO.call rfl _ rfl rfl pf_75 (c_check_binary_1 _ _ _ h72 (AR.nil [6, 49] rfl (AW.cond rfl (fun h73 => ?_) (fun h73 => ?_)))))
           ·
            replace hf := ite_T h73 hf
            refine AW.sr ?_
            obtain ⟨x28, h74, hf⟩ := bind1_inv hf
            refine AR.step rfl rfl rfl (AO.call rfl _ rfl rfl pf_25 (c_check_of _ h74 (AR.step_none rfl rfl (AO.store_box (i := 0) rfl rfl rfl ti_39 rfl rfl rfl rfl rfl (cs 1 rfl (AR.nil [6, 7] rfl ?_))))))
            refine AW.ret ?_
            cases hf
            exact ⟨rfl, _, ⟨_, _, rfl, ⟨_, _, 0, _, _, rfl, rfl, ti_39, rfl⟩, _, _, rfl, rfl, rfl⟩, [], List.nil_sublist _, h⟩
           ·
            replace hf := ite_F h73 hf
            refine AW.skip (AW.sr (AR.step rfl rfl rfl (AO.build rfl zp_39 spl_39 rfl (AR.step_none rfl rfl (AO.store_box (i := 0) rfl rfl rfl ti_39 rfl rfl rfl rfl rfl ?_)))))
            refine cs 1 rfl (AR.nil [6, 7] rfl (AW.ret ?_))
            cases hf
            exact ⟨rfl, _, ⟨_, _, rfl, ⟨_, _, 0, _, _, rfl, rfl, ti_39, rfl⟩, _, _, rfl, rfl, rfl⟩, [], List.nil_sublist _, h⟩
          ·
           cases h70.symm.trans h71
         ·
          replace hf := ite_F h70 hf
          refine AW.sr (cs 2 rfl (AR.nil [4, 5, 6, 8, 10, 43] rfl (AW.cond rfl (fun h75 => ?_) (fun h75 => ?_))))
          ·
           replace hf := ite_T h75 hf
           refine AW.skip (AW.cond rfl (fun h76 => ?_) (fun h76 => ?_))
           ·
            refine AW.sr (cs 1 rfl ?_)
            obtain ⟨x29, h77, hf⟩ := bind1_inv hf
            refine AR.step rfl rfl rfl (AO.call rfl _ rfl rfl pf_75 (c_check_binary_1 _ _ _ h77 (AR.nil [6, 49] rfl (AW.cond rfl (fun h78 => ?_) (fun h78 => ?_)))))
            ·
             replace hf := ite_T h78 hf
             refine AW.sr ?_
             obtain ⟨x30, h79, hf⟩ := bind1_inv hf
             refine AR.step rfl rfl rfl (AO.call rfl _ rfl rfl pf_25 (c_check_of _ h79 (AR.step_none rfl rfl (AO.store_box (i := 0) rfl rfl rfl ti_39 rfl rfl rfl rfl rfl (cs 1 rfl (AR.nil [6, 7] rfl ?_))))))
             refine AW.ret ?_
             cases hf
             exact ⟨rfl, _, ⟨_, _, rfl, ⟨_, _, 0, _, _, rfl, rfl, ti_39, rfl⟩, _, _, rfl, rfl, rfl⟩, [], List.nil_sublist _, h⟩
            ·
             replace hf := ite_F h78 hf
             refine AW.skip (AW.sr (AR.step rfl rfl rfl (AO.build rfl zp_39 spl_39 rfl (AR.step_none rfl rfl (AO.store_box (i := 0) rfl rfl rfl ti_39 rfl rfl rfl rfl rfl ?_)))))
             refine cs 1 rfl (AR.nil [6, 7] rfl (AW.ret ?_))
             cases hf
             exact ⟨rfl, _, ⟨_, _, rfl, ⟨_, _, 0, _, _, rfl, rfl, ti_39, rfl⟩, _, _, rfl, rfl, rfl⟩, [], List.nil_sublist _, h⟩
           ·
            cases h75.symm.trans h76
          ·
           replace hf := ite_F h75 hf
           refine AW.sr (cs 2 rfl (AR.nil [4, 5, 6, 8, 10, 43] rfl (AW.cond rfl (fun h80 => ?_) (fun h80 => ?_))))
           ·
            replace hf := ite_T h80 hf
            refine AW.skip (AW.cond rfl (fun h81 => ?_) (fun h81 => ?_))
            ·
             refine AW.sr (cs 1 rfl ?_)
             obtain ⟨x31, h82, hf⟩ := bind1_inv hf
             refine AR.step rfl rfl rfl (AO.call rfl _ rfl rfl pf_75 (c_check_binary_1 _ _ _ h82 (AR.nil [6, 49] rfl (AW.cond rfl (fun h83 => ?_) (fun h83 => ?_)))))
             ·
              replace hf := ite_T h83 hf
              refine AW.sr ?_
              obtain ⟨x32, h84, hf⟩ := bind1_inv hf
              refine AR.step rfl rfl rfl (AO.call rfl _ rfl rfl pf_25 (c_check_of _ h84 (AR.step_none rfl rfl (AO.store_box (i := 0) rfl rfl rfl ti_39 rfl rfl rfl rfl rfl (cs 1 rfl (AR.nil [6, 7] rfl ?_))))))
              refine AW.ret ?_
              cases hf
              exact ⟨rfl, _, ⟨_, _, rfl, ⟨_, _, 0, _, _, rfl, rfl, ti_39, rfl⟩, _, _, rfl, rfl, rfl⟩, [], List.nil_sublist _, h⟩
             ·
              replace hf := ite_F h83 hf
              refine AW.skip (AW.sr (AR.step rfl rfl rfl (AO.build rfl zp_39 spl_39 rfl (AR.step_none rfl rfl (AO.store_box (i := 0) rfl rfl rfl ti_39 rfl rfl rfl rfl rfl ?_)))))
              refine cs 1 rfl (AR.nil [6, 7] rfl (AW.ret ?_))
              cases hf
              exact ⟨rfl, _, ⟨_, _, rfl, ⟨_, _, 0, _, _, rfl, rfl, ti_39, rfl⟩, _, _, rfl, rfl, rfl⟩, [], List.nil_sublist _, h⟩
            ·
             cases h80.symm.trans h81
           ·
            replace hf := ite_F h80 hf
            refine AW.region (cs 2 rfl (AR.nil [4, 5, 6, 8, 10, 43] rfl (AW.cond rfl (fun h85 => ?_) (fun h85 => ?_))))
            ·
             replace hf := ite_T h85 hf
             refine AW.sr (cs 1 rfl ?_)
             obtain ⟨x33, h86, hf⟩ := bind1_inv hf
             refine AR.step rfl rfl rfl (AO.call rfl _ rfl rfl pf_75 (c_check_binary_1 _ _ _ h86 (AR.nil [6, 49] rfl (AW.cond rfl (fun h87 => ?_) (fun h87 => ?_)))))
             ·
              replace hf := ite_T h87 hf
              refine AW.sr ?_
              obtain ⟨x34, h88, hf⟩ := bind1_inv hf
              refine AR.step rfl rfl rfl (AO.call rfl _ rfl rfl pf_25 (c_check_of _ h88 (AR.step_none rfl rfl (AO.store_box (i := 0) rfl rfl rfl ti_39 rfl rfl rfl rfl rfl (cs 1 rfl (AR.nil [6, 7] rfl ?_))))))
              refine AW.ret ?_
              cases hf
              exact ⟨rfl, _, ⟨_, _, rfl, ⟨_, _, 0, _, _, rfl, rfl, ti_39, rfl⟩, _, _, rfl, rfl, rfl⟩, [], List.nil_sublist _, h⟩
             ·
              replace hf := ite_F h87 hf
              refine AW.skip (AW.sr (AR.step rfl rfl rfl (AO.build rfl zp_39 spl_39 rfl (AR.step_none rfl rfl (AO.store_box (i := 0) rfl rfl rfl ti_39 rfl rfl rfl rfl rfl ?_)))))
              refine cs 1 rfl (AR.nil [6, 7] rfl (AW.ret ?_))
              cases hf
              exact ⟨rfl, _, ⟨_, _, rfl, ⟨_, _, 0, _, _, rfl, rfl, ti_39, rfl⟩, _, _, rfl, rfl, rfl⟩, [], List.nil_sublist _, h⟩
            ·
             replace hf := ite_F h85 hf
             refine AW.sr (cs 2 rfl (AR.nil [4, 5, 6, 51] rfl (AW.cond rfl (fun h89 => ?_) (fun h89 => ?_))))
             ·
              replace hf := ite_T h89 hf
              refine AW.sr (cs 2 rfl ?_)
              replace hf := (bind2_ret _).trans hf
              obtain ⟨x35, x36, h90, hf⟩ := bind2_inv hf
              refine AR.step rfl rfl rfl (AO.call rfl _ rfl rfl pf_77 (c_check_sum _ _ h90 (cs 2 rfl (AR.step_none rfl rfl (AO.store_box (i := 0) rfl rfl rfl ti_39 rfl rfl rfl rfl rfl (cs 1 rfl ?_))))))
              refine AR.nil [6, 7] rfl (AW.ret ?_)
              cases hf
              exact ⟨rfl, _, ⟨_, _, rfl, ⟨_, _, 0, _, _, rfl, rfl, ti_39, rfl⟩, _, _, rfl, rfl, rfl⟩, [], List.nil_sublist _, h⟩
             ·
              replace hf := ite_F h89 hf
              refine AW.skip (AW.sr (AR.step rfl rfl rfl (AO.build rfl zp_39 spl_39 rfl (AR.step_none rfl rfl (AO.store_box (i := 0) rfl rfl rfl ti_39 rfl rfl rfl rfl rfl ?_)))))
              refine cs 1 rfl (AR.nil [6, 7] rfl (AW.ret ?_))
              cases hf
              exact ⟨rfl, _, ⟨_, _, rfl, ⟨_, _, 0, _, _, rfl, rfl, ti_39, rfl⟩, _, _, rfl, rfl, rfl⟩, [], List.nil_sublist _, h⟩

theorem c_check_gathered  (kind1 : Int) (ts1 : List ApiType) {r0 : ApiType} {r1 : Int} (hf : check_gathered kind1 ts1 = some (r0, r1)) {τ : List Res} {Q : AOut → List Res → Prop} (h : Q (.ret (.tuple [.agg [.int .i64 r0.kind, .list (ApiType.cellsL r0.elem)], .int .i64 r1])) τ) : AC Tryz.prog 49 [.int .i64 kind1, .list (ApiType.cellsL ts1)] τ Q := by
 unfold check_gathered at hf
 refine AC.none (AC.of_body 29 [.cell 4 39, .tmp 5] [0, 1] Tryz.func49 rfl rfl rfl rfl rfl (AW.sr (AR.step rfl rfl rfl (AO.alloc_own rfl zp_39 (fun b4 => ?_)))))
 refine cs 1 rfl (AR.nil [0, 1, 4] rfl (AW.sr ?_))
 obtain ⟨x1, h1, hf⟩ := bind1_inv hf
 refine AR.step rfl rfl rfl (AO.call rfl _ rfl rfl pf_25 (c_check_of _ h1 (AR.step rfl rfl rfl (AO.alloc_own rfl zp_39 (fun b6 => (AR.step_none rfl rfl (AO.store_box (i := 0) rfl rfl rfl ti_39 rfl rfl rfl rfl rfl (AR.nil [0, 1, 4, 6] rfl ?_))))))))
 refine AW.seq (AW.sr (cs 1 rfl (AR.step rfl rfl rfl (AO.len_list (l := ts1) rfl rfl rfl rfl es_37 rfl (ApiType.cellsL_eq _) ?_))))
 refine cs 1 rfl (AR.nil [0, 4, 6, 11, 12, 13] rfl (AW.block (AW.settle [0, 4, 6, 11, 12, 13] rfl ?_)))
 refine AW.loopF2 (fun x2 elem1 => [(0, .int .i64 kind1), (4, .val (.pointer (some ⟨b4, 0, none⟩))), (6, .val (.pointer (some ⟨b6, 0, none⟩))), (11, .list (ApiType.cellsL ts1)), (12, .int .i64 (ts1.length : Int)), (13, .int .i64 x2)]) (fun x2 elem1 => [.box b6 [.int .i64 elem1.kind, .list (ApiType.cellsL elem1.elem)], .box b4 [.int .i64 0, .own (.slice none 0 0) []]]) (fun kk1 x2 elem1 => check_gathered_l1 kind1 ts1 kk1 x2 elem1 = some (r0, r1)) BIG 0 x1 rfl rfl hf (fun _ _ hz => none_no hz) ?_
 intro kk1 x2 elem1 hf
 rw [check_gathered_l1] at hf
 refine AW.sr (cs 1 rfl (AR.nil [0, 4, 6, 11, 12, 13, 14] rfl (AW.seq ?_)))
 refine AW.cond rfl (fun h2 => ?_) (fun h2 => ?_)
 ·
  replace hf := ite_T h2 hf
  refine AW.skip (AW.seq (AW.block (AW.sr ?_)))
  obtain ⟨e1, h3, hf⟩ := bind1_inv hf
  refine AR.step rfl rfl rfl (AO.idx_list h3 rfl rfl (ApiType.cellsL_eq _) rfl es_37 (ApiType.cells_eq _) rfl (cs 1 rfl (AR.step rfl rfl rfl (AO.alloc_own rfl zp_39 (fun b8 => (AR.step_none rfl rfl (AO.store_box (i := 0) rfl rfl rfl ti_39 rfl rfl rfl rfl rfl ?_)))))))
  refine AR.nil [0, 4, 6, 8, 11, 12, 13] rfl (AW.region (AR.step rfl rfl rfl (AO.load_box (i := 1) rfl rfl rfl ti_39 rfl rfl (AR.step rfl rfl rfl (AO.load_box (i := 0) rfl rfl rfl ti_39 rfl rfl ?_)))))
  obtain ⟨x3, h4, hf⟩ := bind1_inv hf
  refine AR.step rfl rfl rfl (AO.call rfl _ rfl rfl pf_24 (c_typing_Join _ _ h4 (AR.step_none rfl rfl (AO.store_box (i := 1) rfl rfl rfl ti_39 rfl rfl rfl rfl rfl (AR.nil [0, 4, 6, 11, 12, 13] rfl (AW.region ?_))))))
  refine cs 2 rfl (AR.drop1 (AR.nil [0, 4, 6, 11, 12, 13] rfl ?_))
  exact ⟨(w64 (x2 + 1)), x3, rfl, rfl, rfl, hf⟩
 ·
  replace hf := ite_F h2 hf
  refine AW.exit (AW.sr (cs 1 rfl (AR.step rfl rfl rfl (AO.load_box (i := 0) rfl rfl rfl ti_39 rfl rfl ?_))))
  obtain ⟨x4, h5, hf⟩ := bind1_inv hf
  refine AR.step rfl rfl rfl (AO.call rfl _ rfl rfl pf_78 (c_check_nested _ _ h5 (AR.step rfl rfl rfl (AO.alloc_own rfl zp_39 (fun b9 => (AR.step_none rfl rfl (AO.store_box (i := 0) rfl rfl rfl ti_39 rfl rfl rfl rfl rfl (AR.nil [4, 9] rfl ?_))))))))
  refine AW.seq (AW.sr (AR.step rfl rfl rfl (AO.load_box (i := 0) rfl rfl rfl ti_39 rfl rfl ?_)))
  obtain ⟨x5, h6, hf⟩ := bind1_inv hf
  refine AR.step rfl rfl rfl (AO.call rfl _ rfl rfl pf_20 (c_typing_Valid _ h6 (cs 1 rfl (AR.nil [4, 9, 26] rfl (AW.cond rfl (fun h7 => ?_) (fun h7 => ?_))))))
  ·
   replace hf := ite_T h7 hf
   refine AW.sr (AR.step rfl rfl rfl (AO.build rfl zp_39 spl_39 rfl (AR.step_none rfl rfl (AO.store_box (i := 2) rfl rfl rfl ti_39 rfl rfl rfl rfl rfl (cs 1 rfl ?_)))))
   refine AR.nil [4, 5] rfl (AW.ret ?_)
   cases hf
   exact ⟨rfl, _, ⟨_, _, rfl, ⟨_, _, 2, _, _, rfl, rfl, ti_39, rfl⟩, _, _, rfl, rfl, rfl⟩, [], List.nil_sublist _, h⟩
  ·
   replace hf := ite_F h7 hf
   refine AW.skip (AW.sr (AR.step rfl rfl rfl (AO.load_box (i := 0) rfl rfl rfl ti_39 rfl rfl (AR.step_none rfl rfl (AO.store_box (i := 2) rfl rfl rfl ti_39 rfl rfl rfl rfl rfl ?_)))))
   refine cs 1 rfl (AR.nil [4, 5] rfl (AW.ret ?_))
   cases hf
   exact ⟨rfl, _, ⟨_, _, rfl, ⟨_, _, 2, _, _, rfl, rfl, ti_39, rfl⟩, _, _, rfl, rfl, rfl⟩, [], List.nil_sublist _, h⟩

theorem w_check_find (go_check_find : ApiExpr → List ApiDecl → Option (ApiType × Int)) (go_check_findH : ∀ (ue1 : ApiExpr) (uenv1 : List ApiDecl) {urr1x0 : ApiType} {urr1x1 : Int}, go_check_find ue1 uenv1 = some (urr1x0, urr1x1) → ∀ {τ : List Res} {Q : AOut → List Res → Prop} (h : Q (.ret (.tuple [.agg [.int .i64 urr1x0.kind, .list (ApiType.cellsL urr1x0.elem)], .int .i64 urr1x1])) τ), AC Tryz.prog 23 [.agg [.int .i64 ue1.kind, .str ue1.name, .int .i64 ue1.value.kind, .bool ue1.value.bool_, .int .i64 ue1.value.int_, .str ue1.value.str_, .list (ApiValue.cellsL ue1.value.list_), .list (List.map strC ue1.value.keys), .list (ApiExpr.cellsL ue1.args), .list (List.map strC ue1.keys)], .list (List.map ApiDecl.cells uenv1)] τ Q) (go_check_call : ApiExpr → List ApiDecl → Option (ApiType × Int)) (go_check_callH : ∀ (ue1 : ApiExpr) (uenv1 : List ApiDecl) {urr1x0 : ApiType} {urr1x1 : Int}, go_check_call ue1 uenv1 = some (urr1x0, urr1x1) → ∀ {τ : List Res} {Q : AOut → List Res → Prop} (h : Q (.ret (.tuple [.agg [.int .i64 urr1x0.kind, .list (ApiType.cellsL urr1x0.elem)], .int .i64 urr1x1])) τ), AC Tryz.prog 40 [.agg [.int .i64 ue1.kind, .str ue1.name, .int .i64 ue1.value.kind, .bool ue1.value.bool_, .int .i64 ue1.value.int_, .str ue1.value.str_, .list (ApiValue.cellsL ue1.value.list_), .list (List.map strC ue1.value.keys), .list (ApiExpr.cellsL ue1.args), .list (List.map strC ue1.keys)], .list (List.map ApiDecl.cells uenv1)] τ Q) (go_check_all : List ApiExpr → List ApiDecl → Option (List ApiType × Int)) (go_check_allH : ∀ (ul1 : List ApiExpr) (uenv1 : List ApiDecl) {urr1x0 : List ApiType} {urr1x1 : Int}, go_check_all ul1 uenv1 = some (urr1x0, urr1x1) → ∀ {τ : List Res} {Q : AOut → List Res → Prop} (h : Q (.ret (.tuple [.list (ApiType.cellsL urr1x0), .int .i64 urr1x1])) τ), AC Tryz.prog 41 [.list (ApiExpr.cellsL ul1), .list (List.map ApiDecl.cells uenv1)] τ Q) (e1 : ApiExpr) (env1 : List ApiDecl) {r0 : ApiType} {r1 : Int} (hf : check_find_b go_check_find go_check_call go_check_all e1 env1 = some (r0, r1)) {τ : List Res} {Q : AOut → List Res → Prop} (h : Q (.ret (.tuple [.agg [.int .i64 r0.kind, .list (ApiType.cellsL r0.elem)], .int .i64 r1])) τ) : AC Tryz.prog 23 [.agg [.int .i64 e1.kind, .str e1.name, .int .i64 e1.value.kind, .bool e1.value.bool_, .int .i64 e1.value.int_, .str e1.value.str_, .list (ApiValue.cellsL e1.value.list_), .list (List.map strC e1.value.keys), .list (ApiExpr.cellsL e1.args), .list (List.map strC e1.keys)], .list (List.map ApiDecl.cells env1)] τ Q := by
 unfold check_find_b at hf
 refine AC.none (AC.of_body 110 [.cell 4 39, .tmp 5] [0, 1] Tryz.func23 rfl rfl rfl rfl rfl (AW.sr (AR.step rfl rfl rfl (AO.box_ref rfl rfl rfl ?_))))
 refine AR.step rfl rfl rfl (AO.alloc_own rfl zp_39 (fun b4 => (cs 1 rfl (AR.nil [1, 2, 4] rfl (AW.seq ?_)))))
 refine AW.sr (cs 3 rfl (AR.nil [1, 2, 4, 10] rfl (AW.cond rfl (fun h1 => ?_) (fun h1 => ?_))))
 ·
  replace hf := ite_T h1 hf
  refine AW.sr (cs 2 rfl ?_)
  replace hf := (bind2_ret _).trans hf
  obtain ⟨x1, x2, h2, hf⟩ := bind2_inv hf
  refine AR.step rfl rfl rfl (AO.call rfl _ rfl rfl pf_40 (go_check_callH _ _ h2 (cs 2 rfl (AR.step_none rfl rfl (AO.store_box (i := 0) rfl rfl rfl ti_39 rfl rfl rfl rfl rfl (cs 1 rfl ?_))))))
  refine AR.nil [4, 5] rfl (AW.ret ?_)
  cases hf
  exact ⟨rfl, _, ⟨_, _, rfl, ⟨_, _, 0, _, _, rfl, rfl, ti_39, rfl⟩, _, _, rfl, rfl, rfl⟩, [], List.nil_sublist _, h⟩
 ·
  replace hf := ite_F h1 hf
  refine AW.skip (AW.sr (cs 3 rfl ?_))
  obtain ⟨ts1, f1, h3, hf⟩ := bind2_inv hf
  refine AR.step rfl rfl rfl (AO.call rfl _ rfl rfl pf_41 (go_check_allH _ _ h3 (cs 5 rfl (AR.nil [1, 2, 4, 6, 7] rfl (AW.seq ?_)))))
  refine AW.sr (cs 2 rfl (AR.nil [1, 2, 4, 6, 7, 24] rfl (AW.cond rfl (fun h4 => ?_) (fun h4 => ?_))))
  ·
   replace hf := ite_T h4 hf
   refine AW.sr (AR.step rfl rfl rfl (AO.build rfl zp_39 spl_39 rfl (cs 1 rfl (AR.step_none rfl rfl (AO.store_box (i := 0) rfl rfl rfl ti_39 rfl rfl rfl rfl rfl ?_)))))
   refine cs 1 rfl (AR.nil [4, 5] rfl (AW.ret ?_))
   cases hf
   exact ⟨rfl, _, ⟨_, _, rfl, ⟨_, _, 0, _, _, rfl, rfl, ti_39, rfl⟩, _, _, rfl, rfl, rfl⟩, [], List.nil_sublist _, h⟩
  ·
   replace hf := ite_F h4 hf
   refine AW.skip (AW.seq (AW.sr (cs 2 rfl ?_)))
   refine AR.nil [1, 2, 4, 6, 28] rfl (AW.block (AW.sr (cs 2 rfl ?_)))
   refine AR.nil [1, 2, 4, 6, 28, 29] rfl (AW.cond rfl (fun h5 => ?_) (fun h5 => ?_))
   ·
    replace hf := ite_T h5 hf
    refine AW.sr (cs 2 rfl ?_)
    obtain ⟨x3, h6, hf⟩ := bind1_inv hf
    refine AR.step rfl rfl rfl (AO.call rfl _ rfl rfl pf_42 (c_typing_Of _ h6 (AR.step_none rfl rfl (AO.store_box (i := 0) rfl rfl rfl ti_39 rfl rfl rfl rfl rfl (cs 1 rfl (AR.nil [4, 5] rfl ?_))))))
    refine AW.ret ?_
    cases hf
    exact ⟨rfl, _, ⟨_, _, rfl, ⟨_, _, 0, _, _, rfl, rfl, ti_39, rfl⟩, _, _, rfl, rfl, rfl⟩, [], List.nil_sublist _, h⟩
   ·
    replace hf := ite_F h5 hf
    refine AW.sr (cs 2 rfl (AR.nil [1, 2, 4, 6, 28, 34] rfl (AW.cond rfl (fun h7 => ?_) (fun h7 => ?_))))
    ·
     replace hf := ite_T h7 hf
     refine AW.sr (cs 3 rfl ?_)
     replace hf := (bind2_ret _).trans hf
     obtain ⟨x4, x5, h8, hf⟩ := bind2_inv hf
     refine AR.step rfl rfl rfl (AO.call rfl _ rfl rfl pf_43 (c_check_declared _ _ h8 (cs 2 rfl (AR.step_none rfl rfl (AO.store_box (i := 0) rfl rfl rfl ti_39 rfl rfl rfl rfl rfl (cs 1 rfl ?_))))))
     refine AR.nil [4, 5] rfl (AW.ret ?_)
     cases hf
     exact ⟨rfl, _, ⟨_, _, rfl, ⟨_, _, 0, _, _, rfl, rfl, ti_39, rfl⟩, _, _, rfl, rfl, rfl⟩, [], List.nil_sublist _, h⟩
    ·
     replace hf := ite_F h7 hf
     refine AW.sr (cs 2 rfl (AR.nil [2, 4, 6, 28, 42] rfl (AW.cond rfl (fun h9 => ?_) (fun h9 => ?_))))
     ·
      replace hf := ite_T h9 hf
      refine AW.sr (cs 1 rfl ?_)
      obtain ⟨e2, h10, hf⟩ := bind1_inv hf
      refine AR.step rfl rfl rfl (AO.idx_list h10 rfl rfl (ApiType.cellsL_eq _) rfl es_37 (ApiType.cells_eq _) rfl (cs 1 rfl ?_))
      replace hf := (bind2_ret _).trans hf
      obtain ⟨x6, x7, h11, hf⟩ := bind2_inv hf
      refine AR.step rfl rfl rfl (AO.call rfl _ rfl rfl pf_44 (c_check_member _ h11 (cs 2 rfl (AR.step_none rfl rfl (AO.store_box (i := 0) rfl rfl rfl ti_39 rfl rfl rfl rfl rfl (cs 1 rfl ?_))))))
      refine AR.nil [4, 5] rfl (AW.ret ?_)
      cases hf
      exact ⟨rfl, _, ⟨_, _, rfl, ⟨_, _, 0, _, _, rfl, rfl, ti_39, rfl⟩, _, _, rfl, rfl, rfl⟩, [], List.nil_sublist _, h⟩
     ·
      replace hf := ite_F h9 hf
      refine AW.sr (cs 2 rfl (AR.nil [2, 4, 6, 28, 50] rfl (AW.cond rfl (fun h12 => ?_) (fun h12 => ?_))))
      ·
       replace hf := ite_T h12 hf
       refine AW.seq (AW.draw 9 mixed (by kernel_rfl) rfl ?_)
       refine Ev.cs FX_ok 1 rfl ?_
       obtain ⟨e3, h13, hf⟩ := bind1_inv hf
       refine Ev.cons rfl rfl rfl (AO.idx_list h13 rfl rfl (ApiType.cellsL_eq _) rfl es_37 (ApiType.cells_eq _) rfl ⟨rfl, rfl⟩) (Ev.cs FX_ok 2 rfl ?_)
       obtain ⟨e4, h14, hf⟩ := bind1_inv hf
       refine Ev.cons rfl rfl rfl (AO.idx_list h14 rfl rfl (ApiType.cellsL_eq _) rfl es_37 (ApiType.cells_eq _) rfl ⟨rfl, rfl⟩) (Ev.cs FX_ok 1 rfl ?_)
       replace hf := (bind2_ret _).trans hf
       obtain ⟨x8, x9, h15, hf⟩ := bind2_inv hf
       refine Ev.cons rfl rfl rfl (AO.call rfl _ rfl rfl pf_45 (c_check_index _ _ h15 ⟨rfl, rfl⟩)) (Ev.cs FX_ok 2 rfl (Ev.nil ?_))
       show AR _ _ _ _ _ _ _ _
       refine AR.step_none rfl rfl (AO.store_box (i := 0) rfl rfl rfl ti_39 rfl rfl rfl rfl rfl (cs 1 rfl (AR.nil [4, 5] rfl (AW.ret ?_))))
       cases hf
       exact ⟨rfl, _, ⟨_, _, rfl, ⟨_, _, 0, _, _, rfl, rfl, ti_39, rfl⟩, _, _, rfl, rfl, rfl⟩, [], List.nil_sublist _, h⟩
      ·
       replace hf := ite_F h12 hf
       refine AW.sr (cs 2 rfl (AR.nil [2, 4, 6, 28, 61] rfl (AW.cond rfl (fun h16 => ?_) (fun h16 => ?_))))
       ·
        replace hf := ite_T h16 hf
        refine AW.seq (AW.draw 8 mixed (by kernel_rfl) rfl ?_)
        refine Ev.cs FX_ok 3 rfl ?_
        obtain ⟨e5, h17, hf⟩ := bind1_inv hf
        refine Ev.cons rfl rfl rfl (AO.idx_list h17 rfl rfl (ApiType.cellsL_eq _) rfl es_37 (ApiType.cells_eq _) rfl ⟨rfl, rfl⟩) (Ev.cs FX_ok 1 rfl ?_)
        replace hf := (bind2_ret _).trans hf
        obtain ⟨x10, x11, h18, hf⟩ := bind2_inv hf
        refine Ev.cons rfl rfl rfl (AO.call rfl _ rfl rfl pf_46 (c_check_unary _ _ h18 ⟨rfl, rfl⟩)) (Ev.cs FX_ok 2 rfl (Ev.nil ?_))
        show AR _ _ _ _ _ _ _ _
        refine AR.step_none rfl rfl (AO.store_box (i := 0) rfl rfl rfl ti_39 rfl rfl rfl rfl rfl (cs 1 rfl (AR.nil [4, 5] rfl (AW.ret ?_))))
        cases hf
        exact ⟨rfl, _, ⟨_, _, rfl, ⟨_, _, 0, _, _, rfl, rfl, ti_39, rfl⟩, _, _, rfl, rfl, rfl⟩, [], List.nil_sublist _, h⟩
       ·
        replace hf := ite_F h16 hf
        refine AW.sr (cs 2 rfl (AR.nil [2, 4, 6, 28, 71] rfl (AW.cond rfl (fun h19 => ?_) (fun h19 => ?_))))
        ·
         replace hf := ite_T h19 hf
         refine AW.seq (AW.draw 11 mixed (by kernel_rfl) rfl ?_)
         refine Ev.cs FX_ok 3 rfl ?_
         obtain ⟨e6, h20, hf⟩ := bind1_inv hf
         refine Ev.cons rfl rfl rfl (AO.idx_list h20 rfl rfl (ApiType.cellsL_eq _) rfl es_37 (ApiType.cells_eq _) rfl ⟨rfl, rfl⟩) (Ev.cs FX_ok 2 rfl ?_)
         obtain ⟨e7, h21, hf⟩ := bind1_inv hf
         refine Ev.cons rfl rfl rfl (AO.idx_list h21 rfl rfl (ApiType.cellsL_eq _) rfl es_37 (ApiType.cells_eq _) rfl ⟨rfl, rfl⟩) (Ev.cs FX_ok 1 rfl ?_)
         replace hf := (bind2_ret _).trans hf
         obtain ⟨x12, x13, h22, hf⟩ := bind2_inv hf
         refine Ev.cons rfl rfl rfl (AO.call rfl _ rfl rfl pf_47 (c_check_binary _ _ _ h22 ⟨rfl, rfl⟩)) (Ev.cs FX_ok 2 rfl (Ev.nil ?_))
         show AR _ _ _ _ _ _ _ _
         refine AR.step_none rfl rfl (AO.store_box (i := 0) rfl rfl rfl ti_39 rfl rfl rfl rfl rfl (cs 1 rfl (AR.nil [4, 5] rfl (AW.ret ?_))))
         cases hf
         exact ⟨rfl, _, ⟨_, _, rfl, ⟨_, _, 0, _, _, rfl, rfl, ti_39, rfl⟩, _, _, rfl, rfl, rfl⟩, [], List.nil_sublist _, h⟩
        ·
         replace hf := ite_F h19 hf
         refine AW.sr (cs 2 rfl (AR.nil [4, 6, 28, 84] rfl (AW.cond rfl (fun h23 => ?_) (fun h23 => ?_))))
         ·
          replace hf := ite_T h23 hf
          refine AW.seq (AW.seq (AW.draw 6 mixed (by kernel_rfl) rfl ?_))
          refine Ev.cs FX_ok 1 rfl ?_
          obtain ⟨e8, h24, hf⟩ := bind1_inv hf
          refine Ev.cons rfl rfl rfl (AO.idx_list h24 rfl rfl (ApiType.cellsL_eq _) rfl es_37 (ApiType.cells_eq _) rfl ⟨rfl, rfl⟩) (Ev.cs FX_ok 1 rfl ?_)
          obtain ⟨x14, h25, hf⟩ := bind1_inv hf
          refine Ev.cons rfl rfl rfl (AO.call rfl _ rfl rfl pf_25 (c_check_of _ h25 ⟨rfl, rfl⟩)) ?_
          obtain ⟨x15, h26, hf⟩ := bind1_inv hf
          refine Ev.cons rfl rfl rfl (AO.call rfl _ rfl rfl pf_48 (c_check_compatible _ _ h26 ⟨rfl, rfl⟩)) (Ev.cs FX_ok 1 rfl (Ev.nil ?_))
          show AR _ _ _ _ _ _ _ _
          refine AR.nil [4, 6, 91] rfl (AW.cond rfl (fun h27 => ?_) (fun h27 => ?_))
          ·
           replace hf := ite_T h27 hf
           refine AW.sr (AR.step rfl rfl rfl (AO.build rfl zp_39 spl_39 rfl (AR.step_none rfl rfl (AO.store_box (i := 0) rfl rfl rfl ti_39 rfl rfl rfl rfl rfl (cs 1 rfl ?_)))))
           refine AR.nil [4, 5] rfl (AW.ret ?_)
           cases hf
           exact ⟨rfl, _, ⟨_, _, rfl, ⟨_, _, 0, _, _, rfl, rfl, ti_39, rfl⟩, _, _, rfl, rfl, rfl⟩, [], List.nil_sublist _, h⟩
          ·
           replace hf := ite_F h27 hf
           refine AW.skip (AW.seq (AW.draw 7 mixed (by kernel_rfl) rfl ?_))
           refine Ev.cs FX_ok 1 rfl ?_
           obtain ⟨e9, h28, hf⟩ := bind1_inv hf
           refine Ev.cons rfl rfl rfl (AO.idx_list h28 rfl rfl (ApiType.cellsL_eq _) rfl es_37 (ApiType.cells_eq _) rfl ⟨rfl, rfl⟩) (Ev.cs FX_ok 2 rfl ?_)
           obtain ⟨e10, h29, hf⟩ := bind1_inv hf
           refine Ev.cons rfl rfl rfl (AO.idx_list h29 rfl rfl (ApiType.cellsL_eq _) rfl es_37 (ApiType.cells_eq _) rfl ⟨rfl, rfl⟩) (Ev.cs FX_ok 1 rfl ?_)
           obtain ⟨x16, h30, hf⟩ := bind1_inv hf
           refine Ev.cons rfl rfl rfl (AO.call rfl _ rfl rfl pf_24 (c_typing_Join _ _ h30 ⟨rfl, rfl⟩)) (Ev.nil ?_)
           show AR _ _ _ _ _ _ _ _
           refine AR.step_none rfl rfl (AO.store_box (i := 0) rfl rfl rfl ti_39 rfl rfl rfl rfl rfl (cs 1 rfl (AR.nil [4, 5] rfl (AW.ret ?_))))
           cases hf
           exact ⟨rfl, _, ⟨_, _, rfl, ⟨_, _, 0, _, _, rfl, rfl, ti_39, rfl⟩, _, _, rfl, rfl, rfl⟩, [], List.nil_sublist _, h⟩
         ·
          replace hf := ite_F h23 hf
          refine AW.sr (cs 2 rfl (AR.nil [4, 6, 100] rfl (AW.cond rfl (fun h31 => ?_) (fun h31 => ?_))))
          ·
           replace hf := ite_T h31 hf
           refine AW.sr (cs 1 rfl ?_)
           replace hf := (bind2_ret _).trans hf
           obtain ⟨x17, x18, h32, hf⟩ := bind2_inv hf
           refine AR.step rfl rfl rfl (AO.call rfl _ rfl rfl pf_49 (c_check_gathered _ _ h32 (cs 2 rfl (AR.step_none rfl rfl (AO.store_box (i := 0) rfl rfl rfl ti_39 rfl rfl rfl rfl rfl (cs 1 rfl ?_))))))
           refine AR.nil [4, 5] rfl (AW.ret ?_)
           cases hf
           exact ⟨rfl, _, ⟨_, _, rfl, ⟨_, _, 0, _, _, rfl, rfl, ti_39, rfl⟩, _, _, rfl, rfl, rfl⟩, [], List.nil_sublist _, h⟩
          ·
           replace hf := ite_F h31 hf
           refine AW.skip (AW.sr (cs 1 rfl ?_))
           replace hf := (bind2_ret _).trans hf
           obtain ⟨x19, x20, h33, hf⟩ := bind2_inv hf
           refine AR.step rfl rfl rfl (AO.call rfl _ rfl rfl pf_49 (c_check_gathered _ _ h33 (cs 2 rfl (AR.step_none rfl rfl (AO.store_box (i := 0) rfl rfl rfl ti_39 rfl rfl rfl rfl rfl (cs 1 rfl ?_))))))
           refine AR.nil [4, 5] rfl (AW.ret ?_)
           cases hf
           exact ⟨rfl, _, ⟨_, _, rfl, ⟨_, _, 0, _, _, rfl, rfl, ti_39, rfl⟩, _, _, rfl, rfl, rfl⟩, [], List.nil_sublist _, h⟩

theorem w_check_call (go_check_find : ApiExpr → List ApiDecl → Option (ApiType × Int)) (go_check_findH : ∀ (ue1 : ApiExpr) (uenv1 : List ApiDecl) {urr1x0 : ApiType} {urr1x1 : Int}, go_check_find ue1 uenv1 = some (urr1x0, urr1x1) → ∀ {τ : List Res} {Q : AOut → List Res → Prop} (h : Q (.ret (.tuple [.agg [.int .i64 urr1x0.kind, .list (ApiType.cellsL urr1x0.elem)], .int .i64 urr1x1])) τ), AC Tryz.prog 23 [.agg [.int .i64 ue1.kind, .str ue1.name, .int .i64 ue1.value.kind, .bool ue1.value.bool_, .int .i64 ue1.value.int_, .str ue1.value.str_, .list (ApiValue.cellsL ue1.value.list_), .list (List.map strC ue1.value.keys), .list (ApiExpr.cellsL ue1.args), .list (List.map strC ue1.keys)], .list (List.map ApiDecl.cells uenv1)] τ Q) (go_check_call : ApiExpr → List ApiDecl → Option (ApiType × Int)) (go_check_callH : ∀ (ue1 : ApiExpr) (uenv1 : List ApiDecl) {urr1x0 : ApiType} {urr1x1 : Int}, go_check_call ue1 uenv1 = some (urr1x0, urr1x1) → ∀ {τ : List Res} {Q : AOut → List Res → Prop} (h : Q (.ret (.tuple [.agg [.int .i64 urr1x0.kind, .list (ApiType.cellsL urr1x0.elem)], .int .i64 urr1x1])) τ), AC Tryz.prog 40 [.agg [.int .i64 ue1.kind, .str ue1.name, .int .i64 ue1.value.kind, .bool ue1.value.bool_, .int .i64 ue1.value.int_, .str ue1.value.str_, .list (ApiValue.cellsL ue1.value.list_), .list (List.map strC ue1.value.keys), .list (ApiExpr.cellsL ue1.args), .list (List.map strC ue1.keys)], .list (List.map ApiDecl.cells uenv1)] τ Q) (go_check_all : List ApiExpr → List ApiDecl → Option (List ApiType × Int)) (go_check_allH : ∀ (ul1 : List ApiExpr) (uenv1 : List ApiDecl) {urr1x0 : List ApiType} {urr1x1 : Int}, go_check_all ul1 uenv1 = some (urr1x0, urr1x1) → ∀ {τ : List Res} {Q : AOut → List Res → Prop} (h : Q (.ret (.tuple [.list (ApiType.cellsL urr1x0), .int .i64 urr1x1])) τ), AC Tryz.prog 41 [.list (ApiExpr.cellsL ul1), .list (List.map ApiDecl.cells uenv1)] τ Q) (e1 : ApiExpr) (env1 : List ApiDecl) {r0 : ApiType} {r1 : Int} (hf : check_call_b go_check_find go_check_call go_check_all e1 env1 = some (r0, r1)) {τ : List Res} {Q : AOut → List Res → Prop} (h : Q (.ret (.tuple [.agg [.int .i64 r0.kind, .list (ApiType.cellsL r0.elem)], .int .i64 r1])) τ) : AC Tryz.prog 40 [.agg [.int .i64 e1.kind, .str e1.name, .int .i64 e1.value.kind, .bool e1.value.bool_, .int .i64 e1.value.int_, .str e1.value.str_, .list (ApiValue.cellsL e1.value.list_), .list (List.map strC e1.value.keys), .list (ApiExpr.cellsL e1.args), .list (List.map strC e1.keys)], .list (List.map ApiDecl.cells env1)] τ Q := by
 unfold check_call_b at hf
 refine AC.none (AC.of_body 69 [.cell 4 39, .tmp 5] [0, 1] Tryz.func40 rfl rfl rfl rfl rfl (AW.sr (AR.step rfl rfl rfl (AO.box_ref rfl rfl rfl ?_))))
 refine AR.step rfl rfl rfl (AO.alloc_own rfl zp_39 (fun b4 => (cs 1 rfl (AR.nil [1, 2, 4] rfl (AW.sr ?_)))))
 refine cs 2 rfl ?_
 obtain ⟨alternatives1, x1, h1, hf⟩ := bind2_inv hf
 refine AR.step rfl rfl rfl (AO.call rfl _ rfl rfl pf_70 (c_check_signatures _ h1 (cs 3 rfl (AR.step rfl rfl rfl (AO.alloc_own rfl zp_39 (fun b7 => (cs 1 rfl ?_)))))))
 refine AR.step_none rfl rfl (AO.store_box (i := 0) rfl rfl rfl ti_39 rfl rfl rfl rfl rfl (AR.nil [1, 2, 4, 6, 7] rfl (AW.seq (AW.sr ?_))))
 refine cs 1 rfl (AR.step rfl rfl rfl (AO.len_list (l := alternatives1) rfl rfl rfl rfl es_94 rfl rfl (cs 1 rfl (AR.nil [1, 2, 4, 6, 7, 20] rfl ?_))))
 refine AW.cond rfl (fun h2 => ?_) (fun h2 => ?_)
 ·
  replace hf := ite_T h2 hf
  refine AW.sr (AR.step rfl rfl rfl (AO.build rfl zp_39 spl_39 rfl (AR.step_none rfl rfl (AO.store_box (i := 1) rfl rfl rfl ti_39 rfl rfl rfl rfl rfl (cs 1 rfl ?_)))))
  refine AR.nil [4, 5] rfl (AW.ret ?_)
  cases hf
  exact ⟨rfl, _, ⟨_, _, rfl, ⟨_, _, 1, _, _, rfl, rfl, ti_39, rfl⟩, _, _, rfl, rfl, rfl⟩, [], List.nil_sublist _, h⟩
 ·
  replace hf := ite_F h2 hf
  refine AW.skip (AW.seq (AW.seq (AW.draw 8 mixed (by kernel_rfl) rfl ?_)))
  refine Ev.cs FX_ok 2 rfl (Ev.cons rfl rfl rfl (AO.len_list (l := e1.args) rfl rfl rfl rfl es_26 rfl (ApiExpr.cellsL_eq _) ⟨rfl, rfl⟩) (Ev.cs FX_ok 1 rfl ?_))
  obtain ⟨e2, h3, hf⟩ := bind1_inv hf
  refine Ev.cons rfl rfl rfl (AO.idx_list h3 rfl rfl rfl rfl es_94 rfl rfl ⟨rfl, rfl⟩) (Ev.cs FX_ok 1 rfl (Ev.cons rfl rfl rfl (AO.len_list (l := e2) rfl rfl rfl rfl es_37 rfl (ApiType.cellsL_eq _) ⟨rfl, rfl⟩) (Ev.cs FX_ok 1 rfl ?_)))
  refine Ev.nil ?_
  show AR _ _ _ _ _ _ _ _
  refine AR.nil [1, 2, 4, 6, 7, 29] rfl (AW.cond rfl (fun h4 => ?_) (fun h4 => ?_))
  ·
   replace hf := ite_T h4 hf
   refine AW.sr (AR.step rfl rfl rfl (AO.build rfl zp_39 spl_39 rfl (AR.step_none rfl rfl (AO.store_box (i := 1) rfl rfl rfl ti_39 rfl rfl rfl rfl rfl (cs 1 rfl ?_)))))
   refine AR.nil [4, 5] rfl (AW.ret ?_)
   cases hf
   exact ⟨rfl, _, ⟨_, _, rfl, ⟨_, _, 1, _, _, rfl, rfl, ti_39, rfl⟩, _, _, rfl, rfl, rfl⟩, [], List.nil_sublist _, h⟩
  ·
   replace hf := ite_F h4 hf
   refine AW.skip (AW.sr (cs 3 rfl ?_))
   obtain ⟨ts1, f1, h5, hf⟩ := bind2_inv hf
   refine AR.step rfl rfl rfl (AO.call rfl _ rfl rfl pf_41 (go_check_allH _ _ h5 (cs 5 rfl (AR.nil [2, 4, 6, 7, 8, 9] rfl (AW.seq ?_)))))
   refine AW.sr (cs 2 rfl (AR.nil [2, 4, 6, 7, 8, 9, 39] rfl (AW.cond rfl (fun h6 => ?_) (fun h6 => ?_))))
   ·
    replace hf := ite_T h6 hf
    refine AW.sr (AR.step rfl rfl rfl (AO.build rfl zp_39 spl_39 rfl (cs 1 rfl (AR.step_none rfl rfl (AO.store_box (i := 1) rfl rfl rfl ti_39 rfl rfl rfl rfl rfl ?_)))))
    refine cs 1 rfl (AR.nil [4, 5] rfl (AW.ret ?_))
    cases hf
    exact ⟨rfl, _, ⟨_, _, rfl, ⟨_, _, 1, _, _, rfl, rfl, ti_39, rfl⟩, _, _, rfl, rfl, rfl⟩, [], List.nil_sublist _, h⟩
   ·
    replace hf := ite_F h6 hf
    refine AW.skip (AW.seq (AW.sr (cs 1 rfl ?_)))
    refine AR.step rfl rfl rfl (AO.len_list (l := alternatives1) rfl rfl rfl rfl es_94 rfl rfl (cs 1 rfl (AR.nil [2, 4, 7, 8, 42, 43, 44] rfl (AW.block ?_))))
    refine AW.settle [2, 4, 7, 8, 42, 43, 44] rfl ?_
    refine AW.loopF1 (fun x2 => [(2, .ref [.int .i64 e1.kind, .str e1.name, .int .i64 e1.value.kind, .bool e1.value.bool_, .int .i64 e1.value.int_, .str e1.value.str_, .list (ApiValue.cellsL e1.value.list_), .list (List.map strC e1.value.keys), .list (ApiExpr.cellsL e1.args), .list (List.map strC e1.keys)]), (4, .val (.pointer (some ⟨b4, 0, none⟩))), (7, .val (.pointer (some ⟨b7, 0, none⟩))), (8, .list (ApiType.cellsL ts1)), (42, .list (List.map ApiType.cellsLC alternatives1)), (43, .int .i64 (alternatives1.length : Int)), (44, .int .i64 x2)]) (fun x2 => [.box b7 [.int .i64 x1.kind, .list (ApiType.cellsL x1.elem)], .box b4 [.int .i64 0, .own (.slice none 0 0) []]]) (fun kk1 x2 => check_call_l1 e1 alternatives1 x1 ts1 kk1 x2 = some (r0, r1)) BIG 0 rfl rfl hf (fun _ hz => none_no hz) ?_
    intro kk1 x2 hf
    rw [check_call_l1] at hf
    refine AW.sr (cs 1 rfl (AR.nil [2, 4, 7, 8, 42, 43, 44, 45] rfl (AW.seq ?_)))
    refine AW.cond rfl (fun h7 => ?_) (fun h7 => ?_)
    ·
     replace hf := ite_T h7 hf
     refine AW.skip (AW.seq (AW.block (AW.sr ?_)))
     obtain ⟨want1, h8, hf⟩ := bind1_inv hf
     refine AR.step rfl rfl rfl (AO.idx_list h8 rfl rfl rfl rfl es_94 rfl rfl (cs 2 rfl (AR.nil [2, 4, 7, 8, 11, 42, 43, 44] rfl (AW.seq ?_))))
     refine AW.sr (cs 2 rfl ?_)
     obtain ⟨x3, h9, hf⟩ := bind1_inv hf
     refine AR.step rfl rfl rfl (AO.call rfl _ rfl rfl pf_71 (c_check_suits _ _ h9 (cs 1 rfl (AR.nil [2, 4, 7, 8, 42, 43, 44, 51] rfl (AW.cond rfl (fun h10 => ?_) (fun h10 => ?_))))))
     ·
      replace hf := ite_T h10 hf
      refine AW.exit (AW.region (cs 2 rfl (AR.nil [2, 4, 7, 8, 42, 43, 44] rfl ?_)))
      exact ⟨(w64 (x2 + 1)), rfl, rfl, rfl, hf⟩
     ·
      replace hf := ite_F h10 hf
      refine AW.skip (AW.seq (AW.sr (cs 3 rfl ?_)))
      refine AR.nil [4, 7, 8, 54] rfl (AW.cond rfl (fun h11 => ?_) (fun h11 => ?_))
      ·
       replace hf := ite_T h11 hf
       refine AW.sr (AR.step rfl rfl rfl (AO.load_box (i := 0) rfl rfl rfl ti_39 rfl rfl (AR.step_none rfl rfl (AO.store_box (i := 1) rfl rfl rfl ti_39 rfl rfl rfl rfl rfl (cs 1 rfl ?_)))))
       refine AR.nil [4, 5] rfl (AW.ret ?_)
       cases hf
       exact ⟨rfl, _, ⟨_, _, rfl, ⟨_, _, 1, _, _, rfl, rfl, ti_39, rfl⟩, _, _, rfl, rfl, rfl⟩, [], List.nil_sublist _, h⟩
      ·
       replace hf := ite_F h11 hf
       refine AW.skip (AW.seq (AW.sr (cs 1 rfl ?_)))
       obtain ⟨e3, h12, hf⟩ := bind1_inv hf
       refine AR.step rfl rfl rfl (AO.idx_list h12 rfl rfl (ApiType.cellsL_eq _) rfl es_37 (ApiType.cells_eq _) rfl (cs 3 rfl (AR.nil [4, 8, 60] rfl (AW.cond rfl (fun h13 => ?_) (fun h13 => ?_)))))
       ·
        replace hf := ite_T h13 hf
        refine AW.sr (cs 1 rfl ?_)
        obtain ⟨e4, h14, hf⟩ := bind1_inv hf
        refine AR.step rfl rfl rfl (AO.idx_list h14 rfl rfl (ApiType.cellsL_eq _) rfl es_37 (ApiType.cells_eq _) rfl (cs 1 rfl (AR.step_none rfl rfl (AO.store_box (i := 1) rfl rfl rfl ti_39 rfl rfl rfl rfl rfl (cs 1 rfl ?_)))))
        refine AR.nil [4, 5] rfl (AW.ret ?_)
        cases hf
        exact ⟨rfl, _, ⟨_, _, rfl, ⟨_, _, 1, _, _, rfl, rfl, ti_39, rfl⟩, _, _, rfl, rfl, rfl⟩, [], List.nil_sublist _, h⟩
       ·
        replace hf := ite_F h13 hf
        refine AW.skip (AW.sr (cs 1 rfl ?_))
        obtain ⟨e5, h15, hf⟩ := bind1_inv hf
        refine AR.step rfl rfl rfl (AO.idx_list h15 rfl rfl (ApiType.cellsL_eq _) rfl es_37 (ApiType.cells_eq _) rfl (cs 1 rfl (AR.step_none rfl rfl (AO.store_box (i := 1) rfl rfl rfl ti_39 rfl rfl rfl rfl rfl (cs 1 rfl ?_)))))
        refine AR.nil [4, 5] rfl (AW.ret ?_)
        cases hf
        exact ⟨rfl, _, ⟨_, _, rfl, ⟨_, _, 1, _, _, rfl, rfl, ti_39, rfl⟩, _, _, rfl, rfl, rfl⟩, [], List.nil_sublist _, h⟩
    ·
     replace hf := ite_F h7 hf
     refine AW.exit (AW.sr (AR.step rfl rfl rfl (AO.build rfl zp_39 spl_39 rfl (AR.step_none rfl rfl (AO.store_box (i := 1) rfl rfl rfl ti_39 rfl rfl rfl rfl rfl ?_)))))
     refine cs 1 rfl (AR.nil [4, 5] rfl (AW.ret ?_))
     cases hf
     exact ⟨rfl, _, ⟨_, _, rfl, ⟨_, _, 1, _, _, rfl, rfl, ti_39, rfl⟩, _, _, rfl, rfl, rfl⟩, [], List.nil_sublist _, h⟩

theorem w_check_all (go_check_find : ApiExpr → List ApiDecl → Option (ApiType × Int)) (go_check_findH : ∀ (ue1 : ApiExpr) (uenv1 : List ApiDecl) {urr1x0 : ApiType} {urr1x1 : Int}, go_check_find ue1 uenv1 = some (urr1x0, urr1x1) → ∀ {τ : List Res} {Q : AOut → List Res → Prop} (h : Q (.ret (.tuple [.agg [.int .i64 urr1x0.kind, .list (ApiType.cellsL urr1x0.elem)], .int .i64 urr1x1])) τ), AC Tryz.prog 23 [.agg [.int .i64 ue1.kind, .str ue1.name, .int .i64 ue1.value.kind, .bool ue1.value.bool_, .int .i64 ue1.value.int_, .str ue1.value.str_, .list (ApiValue.cellsL ue1.value.list_), .list (List.map strC ue1.value.keys), .list (ApiExpr.cellsL ue1.args), .list (List.map strC ue1.keys)], .list (List.map ApiDecl.cells uenv1)] τ Q) (go_check_call : ApiExpr → List ApiDecl → Option (ApiType × Int)) (go_check_callH : ∀ (ue1 : ApiExpr) (uenv1 : List ApiDecl) {urr1x0 : ApiType} {urr1x1 : Int}, go_check_call ue1 uenv1 = some (urr1x0, urr1x1) → ∀ {τ : List Res} {Q : AOut → List Res → Prop} (h : Q (.ret (.tuple [.agg [.int .i64 urr1x0.kind, .list (ApiType.cellsL urr1x0.elem)], .int .i64 urr1x1])) τ), AC Tryz.prog 40 [.agg [.int .i64 ue1.kind, .str ue1.name, .int .i64 ue1.value.kind, .bool ue1.value.bool_, .int .i64 ue1.value.int_, .str ue1.value.str_, .list (ApiValue.cellsL ue1.value.list_), .list (List.map strC ue1.value.keys), .list (ApiExpr.cellsL ue1.args), .list (List.map strC ue1.keys)], .list (List.map ApiDecl.cells uenv1)] τ Q) (go_check_all : List ApiExpr → List ApiDecl → Option (List ApiType × Int)) (go_check_allH : ∀ (ul1 : List ApiExpr) (uenv1 : List ApiDecl) {urr1x0 : List ApiType} {urr1x1 : Int}, go_check_all ul1 uenv1 = some (urr1x0, urr1x1) → ∀ {τ : List Res} {Q : AOut → List Res → Prop} (h : Q (.ret (.tuple [.list (ApiType.cellsL urr1x0), .int .i64 urr1x1])) τ), AC Tryz.prog 41 [.list (ApiExpr.cellsL ul1), .list (List.map ApiDecl.cells uenv1)] τ Q) (l1 : List ApiExpr) (env1 : List ApiDecl) {r0 : List ApiType} {r1 : Int} (hf : check_all_b go_check_find go_check_call go_check_all l1 env1 = some (r0, r1)) {τ : List Res} {Q : AOut → List Res → Prop} (h : Q (.ret (.tuple [.list (ApiType.cellsL r0), .int .i64 r1])) τ) : AC Tryz.prog 41 [.list (ApiExpr.cellsL l1), .list (List.map ApiDecl.cells env1)] τ Q := by
 unfold check_all_b at hf
 refine AC.none (AC.of_body 32 [.tmp 4, .tmp 5] [0, 1] Tryz.func41 rfl rfl rfl rfl rfl (AW.sr (AR.step rfl rfl rfl (AO.nil_list rfl rfl ?_))))
 refine cs 1 rfl (AR.nil [0, 1] rfl (AW.sr (cs 1 rfl ?_)))
 refine AR.nil [0, 1, 6] rfl (AW.seq (AW.sr (cs 1 rfl ?_)))
 refine AR.step rfl rfl rfl (AO.len_list (l := l1) rfl rfl rfl rfl es_26 rfl (ApiExpr.cellsL_eq _) (cs 1 rfl (AR.nil [1, 6, 11, 12, 13] rfl (AW.block ?_))))
 refine AW.row 2 39 (AW.settle [1, 6, 11, 12, 13] rfl (AW.loopF3 (fun out1 v1 x1 => [(1, .list (List.map ApiDecl.cells env1)), (6, .own v1 (ApiType.cellsL out1)), (11, .list (ApiExpr.cellsL l1)), (12, .int .i64 (l1.length : Int)), (13, .int .i64 x1)]) (fun out1 v1 x1 => [.row v1 (ApiType.cellsL out1).length 2 39]) (fun kk1 out1 v1 x1 => check_all_l1 go_check_find l1 env1 kk1 out1 x1 = some (r0, r1)) BIG [] (.slice none 0 0) 0 rfl rfl hf (fun _ _ _ hz => none_no hz) ?_))
 intro kk1 out1 v1 x1 hf
 rw [check_all_l1] at hf
 refine AW.sr (cs 1 rfl (AR.nil [1, 6, 11, 12, 13, 14] rfl (AW.seq ?_)))
 refine AW.cond rfl (fun h1 => ?_) (fun h1 => ?_)
 ·
  replace hf := ite_T h1 hf
  refine AW.skip (AW.seq (AW.block (AW.sr ?_)))
  obtain ⟨e1, h2, hf⟩ := bind1_inv hf
  refine AR.step rfl rfl rfl (AO.idx_list h2 rfl rfl (ApiExpr.cellsL_eq _) rfl es_26 (ApiExpr.cells_eq _) rfl (cs 1 rfl (AR.step rfl rfl rfl (AO.alloc_own rfl zp_28 (fun b8 => (AR.step_none rfl rfl (AO.store_box (i := 0) rfl rfl rfl ti_28 rfl rfl rfl rfl rfl ?_)))))))
  refine AR.nil [1, 6, 8, 11, 12, 13] rfl (AW.sr (AR.step rfl rfl rfl (AO.load_box (i := 0) rfl rfl rfl ti_28 rfl rfl (cs 1 rfl ?_))))
  obtain ⟨x2, f1, h3, hf⟩ := bind2_inv hf
  refine AR.step rfl rfl rfl (AO.call rfl _ rfl rfl pf_23 (go_check_findH _ _ h3 (cs 3 rfl (AR.step rfl rfl rfl (AO.alloc_own rfl zp_39 (fun b9 => (AR.step_none rfl rfl (AO.store_box (i := 0) rfl rfl rfl ti_39 rfl rfl rfl rfl rfl ?_))))))))
  refine cs 1 rfl (AR.nil [1, 6, 9, 10, 11, 12, 13] rfl (AW.seq (AW.sr ?_)))
  refine cs 2 rfl (AR.nil [1, 6, 9, 10, 11, 12, 13, 24] rfl (AW.cond rfl (fun h4 => ?_) (fun h4 => ?_)))
  ·
   replace hf := ite_T h4 hf
   refine AW.sr (cs 1 rfl (AR.step rfl rfl rfl (AO.nil_list rfl rfl (cs 1 rfl ?_))))
   refine AR.nil [4, 5] rfl (AW.ret ?_)
   cases hf
   exact ⟨rfl, _, ⟨_, _, rfl, rfl, _, _, rfl, rfl, rfl⟩, [], List.nil_sublist _, h⟩
  ·
   replace hf := ite_F h4 hf
   refine AW.skip (AW.region (cs 1 rfl (AR.step rfl rfl rfl (AO.load_box (i := 0) rfl rfl rfl ti_39 rfl rfl ?_))))
   refine AR.step rfl rfl rfl (AO.buildSliceF (ApiType.cellsL [x2]) rfl sf_37 rfl rfl rfl (by first | rfl | simp only [List.map, ApiType.cells_eq, ApiType.cellsL]) ?_)
   obtain ⟨out2, h5, hf⟩ := bind1_inv hf
   refine AR.step rfl rfl rfl (AO.app_own (i := 2) (l := out1) (m := [x2]) h5 rfl rfl rfl rfl rfl rfl rfl sf_37 es_37 (ApiType.cellsL_eq _) (ApiType.cellsL_eq _) (ApiType.cellsL_eq _).symm (ApiType.cells_len) (ApiType.cells_one) (by decide) (fun v2 s1 hs1 => ?_))
   cases hs1
   refine cs 1 rfl (AR.nil [1, 6, 11, 12, 13] rfl (AW.region (cs 2 rfl ?_)))
   refine AR.drop1 (AR.drop1 (AR.nil [1, 6, 11, 12, 13] rfl ?_))
   exact ⟨out2, v2, (w64 (x1 + 1)), rfl, rfl, rfl, hf⟩
 ·
  replace hf := ite_F h1 hf
  refine AW.exit (AW.sr (cs 3 rfl (AR.nil [4, 5] rfl ?_)))
  refine AW.ret ?_
  cases hf
  exact ⟨rfl, _, ⟨_, _, rfl, rfl, _, _, rfl, rfl, rfl⟩, [], List.nil_sublist _, h⟩

theorem n_check_find : ∀ k : Nat, (∀ (ue1 : ApiExpr) (uenv1 : List ApiDecl) {urr1x0 : ApiType} {urr1x1 : Int}, check_find_n k ue1 uenv1 = some (urr1x0, urr1x1) → ∀ {τ : List Res} {Q : AOut → List Res → Prop} (h : Q (.ret (.tuple [.agg [.int .i64 urr1x0.kind, .list (ApiType.cellsL urr1x0.elem)], .int .i64 urr1x1])) τ), AC Tryz.prog 23 [.agg [.int .i64 ue1.kind, .str ue1.name, .int .i64 ue1.value.kind, .bool ue1.value.bool_, .int .i64 ue1.value.int_, .str ue1.value.str_, .list (ApiValue.cellsL ue1.value.list_), .list (List.map strC ue1.value.keys), .list (ApiExpr.cellsL ue1.args), .list (List.map strC ue1.keys)], .list (List.map ApiDecl.cells uenv1)] τ Q) ∧ (∀ (ue1 : ApiExpr) (uenv1 : List ApiDecl) {urr1x0 : ApiType} {urr1x1 : Int}, check_call_n k ue1 uenv1 = some (urr1x0, urr1x1) → ∀ {τ : List Res} {Q : AOut → List Res → Prop} (h : Q (.ret (.tuple [.agg [.int .i64 urr1x0.kind, .list (ApiType.cellsL urr1x0.elem)], .int .i64 urr1x1])) τ), AC Tryz.prog 40 [.agg [.int .i64 ue1.kind, .str ue1.name, .int .i64 ue1.value.kind, .bool ue1.value.bool_, .int .i64 ue1.value.int_, .str ue1.value.str_, .list (ApiValue.cellsL ue1.value.list_), .list (List.map strC ue1.value.keys), .list (ApiExpr.cellsL ue1.args), .list (List.map strC ue1.keys)], .list (List.map ApiDecl.cells uenv1)] τ Q) ∧ (∀ (ul1 : List ApiExpr) (uenv1 : List ApiDecl) {urr1x0 : List ApiType} {urr1x1 : Int}, check_all_n k ul1 uenv1 = some (urr1x0, urr1x1) → ∀ {τ : List Res} {Q : AOut → List Res → Prop} (h : Q (.ret (.tuple [.list (ApiType.cellsL urr1x0), .int .i64 urr1x1])) τ), AC Tryz.prog 41 [.list (ApiExpr.cellsL ul1), .list (List.map ApiDecl.cells uenv1)] τ Q) := by
 intro k
 induction k with
 | zero => exact ⟨fun _ _ _ _ hz => by first | cases hz | (unfold check_find_n at hz; cases hz), fun _ _ _ _ hz => by first | cases hz | (unfold check_call_n at hz; cases hz), fun _ _ _ _ hz => by first | cases hz | (unfold check_all_n at hz; cases hz)⟩
 | succ k ih => exact ⟨fun ue1 uenv1 urr1x0 urr1x1 hz τ Q hq => w_check_find (check_find_n k) ih.1 (check_call_n k) ih.2.1 (check_all_n k) ih.2.2 ue1 uenv1 hz hq, fun ue1 uenv1 urr1x0 urr1x1 hz τ Q hq => w_check_call (check_find_n k) ih.1 (check_call_n k) ih.2.1 (check_all_n k) ih.2.2 ue1 uenv1 hz hq, fun ul1 uenv1 urr1x0 urr1x1 hz τ Q hq => w_check_all (check_find_n k) ih.1 (check_call_n k) ih.2.1 (check_all_n k) ih.2.2 ul1 uenv1 hz hq⟩
theorem c_check_find (ue1 : ApiExpr) (uenv1 : List ApiDecl) {urr1x0 : ApiType} {urr1x1 : Int} (hf : check_find ue1 uenv1 = some (urr1x0, urr1x1)) {τ : List Res} {Q : AOut → List Res → Prop} (h : Q (.ret (.tuple [.agg [.int .i64 urr1x0.kind, .list (ApiType.cellsL urr1x0.elem)], .int .i64 urr1x1])) τ) : AC Tryz.prog 23 [.agg [.int .i64 ue1.kind, .str ue1.name, .int .i64 ue1.value.kind, .bool ue1.value.bool_, .int .i64 ue1.value.int_, .str ue1.value.str_, .list (ApiValue.cellsL ue1.value.list_), .list (List.map strC ue1.value.keys), .list (ApiExpr.cellsL ue1.args), .list (List.map strC ue1.keys)], .list (List.map ApiDecl.cells uenv1)] τ Q :=
 ((n_check_find BIG).1) ue1 uenv1 hf h
theorem c_check_call (ue1 : ApiExpr) (uenv1 : List ApiDecl) {urr1x0 : ApiType} {urr1x1 : Int} (hf : check_call ue1 uenv1 = some (urr1x0, urr1x1)) {τ : List Res} {Q : AOut → List Res → Prop} (h : Q (.ret (.tuple [.agg [.int .i64 urr1x0.kind, .list (ApiType.cellsL urr1x0.elem)], .int .i64 urr1x1])) τ) : AC Tryz.prog 40 [.agg [.int .i64 ue1.kind, .str ue1.name, .int .i64 ue1.value.kind, .bool ue1.value.bool_, .int .i64 ue1.value.int_, .str ue1.value.str_, .list (ApiValue.cellsL ue1.value.list_), .list (List.map strC ue1.value.keys), .list (ApiExpr.cellsL ue1.args), .list (List.map strC ue1.keys)], .list (List.map ApiDecl.cells uenv1)] τ Q :=
 ((n_check_find BIG).2.1) ue1 uenv1 hf h
theorem c_check_all (ul1 : List ApiExpr) (uenv1 : List ApiDecl) {urr1x0 : List ApiType} {urr1x1 : Int} (hf : check_all ul1 uenv1 = some (urr1x0, urr1x1)) {τ : List Res} {Q : AOut → List Res → Prop} (h : Q (.ret (.tuple [.list (ApiType.cellsL urr1x0), .int .i64 urr1x1])) τ) : AC Tryz.prog 41 [.list (ApiExpr.cellsL ul1), .list (List.map ApiDecl.cells uenv1)] τ Q :=
 ((n_check_find BIG).2.2) ul1 uenv1 hf h

theorem c_check_Expr  (e1 : ApiExpr) (env1 : List ApiDecl) {r0 : ApiType} {r1 : Int} (hf : check_Expr e1 env1 = some (r0, r1)) {τ : List Res} {Q : AOut → List Res → Prop} (h : Q (.ret (.tuple [.agg [.int .i64 r0.kind, .list (ApiType.cellsL r0.elem)], .int .i64 r1])) τ) : AC Tryz.prog 11 [.agg [.int .i64 e1.kind, .str e1.name, .int .i64 e1.value.kind, .bool e1.value.bool_, .int .i64 e1.value.int_, .str e1.value.str_, .list (ApiValue.cellsL e1.value.list_), .list (List.map strC e1.value.keys), .list (ApiExpr.cellsL e1.args), .list (List.map strC e1.keys)], .list (List.map ApiDecl.cells env1)] τ Q := by
 unfold check_Expr at hf
 refine AC.none (AC.of_body 35 [.cell 4 39, .tmp 5] [0, 1] Tryz.func11 rfl rfl rfl rfl rfl (AW.sr (AR.step rfl rfl rfl (AO.box_ref rfl rfl rfl ?_))))
 refine AR.step rfl rfl rfl (AO.alloc_own rfl zp_39 (fun b4 => (cs 1 rfl (AR.nil [1, 2, 4] rfl (AW.seq ?_)))))
 refine AW.sr (cs 1 rfl ?_)
 obtain ⟨f1, h1, hf⟩ := bind1_inv hf
 refine AR.step rfl rfl rfl (AO.call rfl _ rfl rfl pf_9 (c_check_Env _ h1 (cs 1 rfl (AR.nil [1, 2, 4, 6] rfl (AW.sr ?_)))))
 refine cs 2 rfl (AR.nil [1, 2, 4, 6, 13] rfl (AW.cond rfl (fun h2 => ?_) (fun h2 => ?_)))
 ·
  replace hf := ite_T h2 hf
  refine AW.sr (AR.step rfl rfl rfl (AO.build rfl zp_39 spl_39 rfl (cs 1 rfl (AR.step_none rfl rfl (AO.store_box (i := 0) rfl rfl rfl ti_39 rfl rfl rfl rfl rfl ?_)))))
  refine cs 1 rfl (AR.nil [4, 5] rfl (AW.ret ?_))
  cases hf
  exact ⟨rfl, _, ⟨_, _, rfl, ⟨_, _, 0, _, _, rfl, rfl, ti_39, rfl⟩, _, _, rfl, rfl, rfl⟩, [], List.nil_sublist _, h⟩
 ·
  replace hf := ite_F h2 hf
  refine AW.skip (AW.seq (AW.sr (cs 1 rfl ?_)))
  obtain ⟨f2, h3, hf⟩ := bind1_inv hf
  refine AR.step rfl rfl rfl (AO.call rfl _ rfl rfl pf_19 (c_parser_Valid _ h3 (cs 1 rfl (AR.nil [1, 2, 4, 7] rfl (AW.sr ?_)))))
  refine cs 2 rfl (AR.nil [1, 2, 4, 7, 19] rfl (AW.cond rfl (fun h4 => ?_) (fun h4 => ?_)))
  ·
   replace hf := ite_T h4 hf
   refine AW.sr (AR.step rfl rfl rfl (AO.build rfl zp_39 spl_39 rfl (cs 1 rfl (AR.step_none rfl rfl (AO.store_box (i := 0) rfl rfl rfl ti_39 rfl rfl rfl rfl rfl ?_)))))
   refine cs 1 rfl (AR.nil [4, 5] rfl (AW.ret ?_))
   cases hf
   exact ⟨rfl, _, ⟨_, _, rfl, ⟨_, _, 0, _, _, rfl, rfl, ti_39, rfl⟩, _, _, rfl, rfl, rfl⟩, [], List.nil_sublist _, h⟩
  ·
   replace hf := ite_F h4 hf
   refine AW.skip (AW.sr (cs 2 rfl ?_))
   obtain ⟨x1, f3, h5, hf⟩ := bind2_inv hf
   refine AR.step rfl rfl rfl (AO.call rfl _ rfl rfl pf_23 (c_check_find _ _ h5 (cs 3 rfl (AR.step rfl rfl rfl (AO.alloc_own rfl zp_39 (fun b8 => (AR.step_none rfl rfl (AO.store_box (i := 0) rfl rfl rfl ti_39 rfl rfl rfl rfl rfl ?_))))))))
   refine cs 1 rfl (AR.nil [4, 8, 9] rfl (AW.seq (AW.sr ?_)))
   refine cs 2 rfl (AR.nil [4, 8, 9, 29] rfl (AW.cond rfl (fun h6 => ?_) (fun h6 => ?_)))
   ·
    replace hf := ite_T h6 hf
    refine AW.sr (AR.step rfl rfl rfl (AO.build rfl zp_39 spl_39 rfl (cs 1 rfl (AR.step_none rfl rfl (AO.store_box (i := 1) rfl rfl rfl ti_39 rfl rfl rfl rfl rfl ?_)))))
    refine cs 1 rfl (AR.nil [4, 5] rfl (AW.ret ?_))
    cases hf
    exact ⟨rfl, _, ⟨_, _, rfl, ⟨_, _, 1, _, _, rfl, rfl, ti_39, rfl⟩, _, _, rfl, rfl, rfl⟩, [], List.nil_sublist _, h⟩
   ·
    replace hf := ite_F h6 hf
    refine AW.skip (AW.seq (AW.draw 3 mixed (by kernel_rfl) rfl ?_))
    refine Ev.cons rfl rfl rfl (AO.load_box (i := 0) rfl rfl rfl ti_39 rfl rfl ⟨rfl, rfl⟩) ?_
    obtain ⟨x2, h7, hf⟩ := bind1_inv hf
    refine Ev.cons rfl rfl rfl (AO.call rfl _ rfl rfl pf_25 (c_check_of _ h7 ⟨rfl, rfl⟩)) ?_
    obtain ⟨x3, h8, hf⟩ := bind1_inv hf
    refine Ev.cons rfl rfl rfl (AO.call rfl _ rfl rfl pf_24 (c_typing_Join _ _ h8 ⟨rfl, rfl⟩)) (Ev.nil ?_)
    show AR _ _ _ _ _ _ _ _
    refine AR.step_none rfl rfl (AO.store_box (i := 1) rfl rfl rfl ti_39 rfl rfl rfl rfl rfl (cs 1 rfl (AR.nil [4, 5] rfl (AW.ret ?_))))
    cases hf
    exact ⟨rfl, _, ⟨_, _, rfl, ⟨_, _, 1, _, _, rfl, rfl, ti_39, rfl⟩, _, _, rfl, rfl, rfl⟩, [], List.nil_sublist _, h⟩

theorem c_typing_Show  (t1 : ApiType) {r0 : Str} (hf : typing_Show t1 = some r0) {τ : List Res} {Q : AOut → List Res → Prop} (h : Q (.ret (.str r0)) τ) : AC Tryz.prog 27 [.agg [.int .i64 t1.kind, .list (ApiType.cellsL t1.elem)]] τ Q := by
 unfold typing_Show at hf
 refine AC.none (AC.of_body 30 [.tmp 2] [0] Tryz.func27 rfl rfl rfl rfl rfl (AW.sr (AR.step rfl rfl rfl (AO.box_own rfl rfl (fun b1 => ?_)))))
 refine cs 1 rfl (AR.nil [1] rfl (AW.seq (AW.sr ?_)))
 refine AR.step rfl rfl rfl (AO.load_box (i := 0) rfl rfl rfl ti_39 rfl rfl ?_)
 obtain ⟨x1, h1, hf⟩ := bind1_inv hf
 refine AR.step rfl rfl rfl (AO.call rfl _ rfl rfl pf_20 (c_typing_Valid _ h1 (cs 1 rfl (AR.nil [1, 7] rfl (AW.cond rfl (fun h2 => ?_) (fun h2 => ?_))))))
 ·
  replace hf := ite_T h2 hf
  refine AW.sr (cs 1 rfl (AR.nil [2] rfl (AW.ret ?_)))
  cases hf
  exact ⟨rfl, _, ⟨_, _, rfl, rfl, rfl⟩, [], List.nil_sublist _, h⟩
 ·
  replace hf := ite_F h2 hf
  refine AW.skip (AW.sr (cs 2 rfl (AR.nil [1, 3, 4] rfl ?_)))
  refine AW.seq (AW.block (AW.settle [1, 3, 4] rfl (AW.loopF3 (fun s1 end1 t2 => [(1, .val (.pointer (some ⟨b1, 0, none⟩))), (3, .str s1), (4, .str end1)]) (fun s1 end1 t2 => [.box b1 [.int .i64 t2.kind, .list (ApiType.cellsL t2.elem)]]) (fun kk1 s1 end1 t2 => typing_Show_l1 kk1 s1 end1 t2 = some r0) BIG ([] : Str) ([] : Str) t1 rfl rfl hf (fun _ _ _ hz => none_no hz) ?_)))
  intro kk1 s1 end1 t2 hf
  rw [typing_Show_l1] at hf
  refine AW.seq (AW.sr (cs 1 rfl (AR.step rfl rfl rfl (AO.load_box (i := 0) rfl rfl rfl ti_3 rfl rfl ?_))))
  obtain ⟨x2, h3, hf⟩ := bind1_inv hf
  refine AR.step rfl rfl rfl (AO.call rfl _ rfl rfl pf_37 (c_typing_nested _ h3 (AR.nil [1, 3, 4, 10] rfl (AW.cond rfl (fun h4 => ?_) (fun h4 => ?_)))))
  ·
   replace hf := ite_T h4 hf
   refine AW.skip (AW.block (AW.sr (cs 2 rfl ?_)))
   refine AR.step rfl rfl rfl (AO.load_box (i := 0) rfl rfl rfl ti_3 rfl rfl ?_)
   obtain ⟨x3, h5, hf⟩ := bind1_inv hf
   refine AR.step rfl rfl rfl (AO.call rfl _ rfl rfl pf_36 (c_typing_name _ h5 ?_))
   obtain ⟨x4, h6, hf⟩ := bind1_inv hf
   refine AR.step rfl rfl rfl (AO.catF h6 rfl rfl rfl ?_)
   obtain ⟨s2, h7, hf⟩ := bind1_inv hf
   refine AR.step rfl rfl rfl (AO.catF h7 rfl rfl rfl (cs 1 rfl (AR.nil [1, 3, 4] rfl (AW.sr ?_))))
   refine cs 1 rfl ?_
   obtain ⟨end2, h8, hf⟩ := bind1_inv hf
   refine AR.step rfl rfl rfl (AO.catF h8 rfl rfl rfl (cs 1 rfl (AR.nil [1, 3, 4] rfl (AW.region ?_))))
   refine cs 1 rfl (AR.step rfl rfl rfl (AO.load_box (i := 0) rfl rfl rfl ti_37 rfl rfl ?_))
   obtain ⟨e1, h9, hf⟩ := bind1_inv hf
   refine AR.step rfl rfl rfl (AO.idx_list h9 rfl rfl (ApiType.cellsL_eq _) rfl es_37 (ApiType.cells_eq _) rfl (cs 1 rfl (AR.step_none rfl rfl (AO.store_box (i := 0) rfl rfl rfl ti_39 rfl rfl rfl rfl rfl (AR.nil [1, 3, 4] rfl ?_)))))
   exact ⟨s2, end2, e1, rfl, rfl, rfl, hf⟩
  ·
   replace hf := ite_F h4 hf
   refine AW.exit (AW.sr (cs 2 rfl (AR.step rfl rfl rfl (AO.load_box (i := 0) rfl rfl rfl ti_3 rfl rfl ?_))))
   obtain ⟨x5, h10, hf⟩ := bind1_inv hf
   refine AR.step rfl rfl rfl (AO.call rfl _ rfl rfl pf_36 (c_typing_name _ h10 ?_))
   obtain ⟨x6, h11, hf⟩ := bind1_inv hf
   refine AR.step rfl rfl rfl (AO.catF h11 rfl rfl rfl (cs 1 rfl ?_))
   replace hf := (bind1_ret _).trans hf
   obtain ⟨x7, h12, hf⟩ := bind1_inv hf
   refine AR.step rfl rfl rfl (AO.catF h12 rfl rfl rfl (cs 1 rfl (AR.nil [2] rfl (AW.ret ?_))))
   cases hf
   exact ⟨rfl, _, ⟨_, _, rfl, rfl, rfl⟩, [], List.nil_sublist _, h⟩

theorem c_l11_text  (src1 : Str) (env1 : List ApiDecl) {r0 : Str} {r1 : Int} (hf : l11_text src1 env1 = some (r0, r1)) {τ : List Res} {Q : AOut → List Res → Prop} (h : Q (.ret (.tuple [.str r0, .int .i64 r1])) τ) : AC Tryz.prog 14 [.str src1, .list (List.map ApiDecl.cells env1)] τ Q := by
 unfold l11_text at hf
 refine AC.none (AC.of_body 31 [.tmp 4, .tmp 5] [0, 1] Tryz.func14 rfl rfl rfl rfl rfl (AW.sr (cs 2 rfl ?_)))
 refine AR.nil [0, 1] rfl (AW.sr (cs 1 rfl ?_))
 obtain ⟨x1, x2, f1, h1, hf⟩ := bind3_inv hf
 refine AR.step rfl rfl rfl (AO.call rfl _ rfl rfl pf_26 (c_parser_Parse _ h1 (cs 4 rfl (AR.step rfl rfl rfl (AO.alloc_own rfl zp_28 (fun b6 => (AR.step_none rfl rfl (AO.store_box (i := 0) rfl rfl rfl ti_28 rfl rfl rfl rfl rfl ?_))))))))
 refine cs 2 rfl (AR.nil [1, 6, 8] rfl (AW.seq (AW.sr ?_)))
 refine cs 2 rfl (AR.nil [1, 6, 8, 17] rfl (AW.cond rfl (fun h2 => ?_) (fun h2 => ?_)))
 ·
  replace hf := ite_T h2 hf
  refine AW.sr (cs 3 rfl (AR.nil [4, 5] rfl (AW.ret ?_)))
  cases hf
  exact ⟨rfl, _, ⟨_, _, rfl, rfl, _, _, rfl, rfl, rfl⟩, [], List.nil_sublist _, h⟩
 ·
  replace hf := ite_F h2 hf
  refine AW.skip (AW.sr (AR.step rfl rfl rfl (AO.load_box (i := 0) rfl rfl rfl ti_28 rfl rfl (cs 1 rfl ?_))))
  obtain ⟨x3, f2, h3, hf⟩ := bind2_inv hf
  refine AR.step rfl rfl rfl (AO.call rfl _ rfl rfl pf_11 (c_check_Expr _ _ h3 (cs 3 rfl (AR.step rfl rfl rfl (AO.alloc_own rfl zp_39 (fun b9 => (AR.step_none rfl rfl (AO.store_box (i := 0) rfl rfl rfl ti_39 rfl rfl rfl rfl rfl ?_))))))))
  refine cs 1 rfl (AR.nil [8, 9] rfl (AW.seq (AW.sr ?_)))
  refine cs 2 rfl (AR.nil [8, 9, 26] rfl (AW.cond rfl (fun h4 => ?_) (fun h4 => ?_)))
  ·
   replace hf := ite_T h4 hf
   refine AW.sr (cs 3 rfl (AR.nil [4, 5] rfl (AW.ret ?_)))
   cases hf
   exact ⟨rfl, _, ⟨_, _, rfl, rfl, _, _, rfl, rfl, rfl⟩, [], List.nil_sublist _, h⟩
  ·
   replace hf := ite_F h4 hf
   refine AW.skip (AW.sr (AR.step rfl rfl rfl (AO.load_box (i := 0) rfl rfl rfl ti_39 rfl rfl ?_)))
   obtain ⟨x4, h5, hf⟩ := bind1_inv hf
   refine AR.step rfl rfl rfl (AO.call rfl _ rfl rfl pf_27 (c_typing_Show _ h5 (cs 3 rfl (AR.nil [4, 5] rfl (AW.ret ?_)))))
   cases hf
   exact ⟨rfl, _, ⟨_, _, rfl, rfl, _, _, rfl, rfl, rfl⟩, [], List.nil_sublist _, h⟩

theorem c_l11_awake   {r0 : Bool} (hf : l11_awake = some r0) {τ : List Res} {Q : AOut → List Res → Prop} (h : Q (.ret (.bool r0)) τ) : AC Tryz.prog 6 [] τ Q := by
 unfold l11_awake at hf
 refine AC.none (AC.of_body 113 [.tmp 0] [] Tryz.func6 rfl rfl rfl rfl rfl (AW.sr (cs 1 rfl ?_)))
 refine AR.nil [] rfl (AW.sr (AR.step rfl rfl rfl (AO.build rfl zp_39 spl_39 rfl (AR.step rfl rfl rfl (AO.build rfl zp_41 spl_41 rfl ?_)))))
 refine AR.step rfl rfl rfl (AO.build rfl zp_39 spl_39 rfl (AR.step rfl rfl rfl (AO.build rfl zp_41 spl_41 rfl (AR.step rfl rfl rfl (AO.buildSliceF (List.map ApiDecl.cells [(ApiDecl.mk ([110] : Str) (ApiType.mk 3 [])), (ApiDecl.mk ([120] : Str) (ApiType.mk 2 []))]) rfl sf_29 rfl rfl rfl (by first | rfl | simp only [List.map, ApiDecl.cells_eq]) ?_)))))
 refine cs 1 rfl (AR.nil [1] rfl (AW.sr (AR.step rfl rfl rfl (AO.buildSliceF (List.map byteC ([34] : List UInt8)) rfl sf_47 rfl rfl rfl rfl ?_))))
 refine AR.step rfl rfl rfl (AO.bytes_str rfl un_47 un_5 un_9 rfl rfl (cs 1 rfl (AR.nil [1, 2] rfl (AW.sr ?_))))
 refine cs 1 rfl ?_
 obtain ⟨x1, h1, hf⟩ := bind1_inv hf
 refine AR.step rfl rfl rfl (AO.catF h1 rfl rfl rfl (cs 1 rfl ?_))
 obtain ⟨a1, h2, hf⟩ := bind1_inv hf
 refine AR.step rfl rfl rfl (AO.catF h2 rfl rfl rfl (cs 1 rfl (AR.nil [1, 3] rfl (AW.sr ?_))))
 refine cs 1 rfl ?_
 obtain ⟨x2, h3, hf⟩ := bind1_inv hf
 refine AR.step rfl rfl rfl (AO.catF h3 rfl rfl rfl ?_)
 obtain ⟨x3, h4, hf⟩ := bind1_inv hf
 refine AR.step rfl rfl rfl (AO.catF h4 rfl rfl rfl (cs 1 rfl ?_))
 obtain ⟨s1, e1, h5, hf⟩ := bind2_inv hf
 refine AR.step rfl rfl rfl (AO.call rfl _ rfl rfl pf_14 (c_l11_text _ _ h5 (cs 5 rfl (AR.nil [1, 3, 4, 5] rfl (AW.sr ?_)))))
 refine cs 1 rfl ?_
 obtain ⟨x4, h6, hf⟩ := bind1_inv hf
 refine AR.step rfl rfl rfl (AO.catF h6 rfl rfl rfl ?_)
 obtain ⟨x5, h7, hf⟩ := bind1_inv hf
 refine AR.step rfl rfl rfl (AO.catF h7 rfl rfl rfl (cs 1 rfl ?_))
 obtain ⟨t1, f1, h8, hf⟩ := bind2_inv hf
 refine AR.step rfl rfl rfl (AO.call rfl _ rfl rfl pf_14 (c_l11_text _ _ h8 (cs 5 rfl (AR.nil [1, 3, 4, 5, 6, 7] rfl (AW.sr ?_)))))
 refine cs 1 rfl ?_
 obtain ⟨x6, h9, hf⟩ := bind1_inv hf
 refine AR.step rfl rfl rfl (AO.catF h9 rfl rfl rfl ?_)
 obtain ⟨x7, h10, hf⟩ := bind1_inv hf
 refine AR.step rfl rfl rfl (AO.catF h10 rfl rfl rfl (cs 1 rfl ?_))
 obtain ⟨u1, g1, h11, hf⟩ := bind2_inv hf
 refine AR.step rfl rfl rfl (AO.call rfl _ rfl rfl pf_14 (c_l11_text _ _ h11 (cs 5 rfl (AR.nil [1, 3, 4, 5, 6, 7, 8, 9] rfl (AW.sr ?_)))))
 refine cs 1 rfl ?_
 obtain ⟨x8, h12, hf⟩ := bind1_inv hf
 refine AR.step rfl rfl rfl (AO.catF h12 rfl rfl rfl (cs 1 rfl ?_))
 obtain ⟨x9, hx1, h13, hf⟩ := bind2_inv hf
 refine AR.step rfl rfl rfl (AO.call rfl _ rfl rfl pf_14 (c_l11_text _ _ h13 (cs 5 rfl (AR.nil [1, 3, 4, 5, 6, 7, 8, 9, 11] rfl (AW.sr ?_)))))
 refine cs 1 rfl ?_
 obtain ⟨x10, kx1, h14, hf⟩ := bind2_inv hf
 refine AR.step rfl rfl rfl (AO.call rfl _ rfl rfl pf_14 (c_l11_text _ _ h14 (cs 5 rfl (AR.nil [1, 3, 4, 5, 6, 7, 8, 9, 11, 13] rfl (AW.sr ?_)))))
 refine cs 1 rfl ?_
 obtain ⟨x11, h15, hf⟩ := bind1_inv hf
 refine AR.step rfl rfl rfl (AO.catF h15 rfl rfl rfl (cs 1 rfl ?_))
 obtain ⟨v1, m1, h16, hf⟩ := bind2_inv hf
 refine AR.step rfl rfl rfl (AO.call rfl _ rfl rfl pf_14 (c_l11_text _ _ h16 (cs 5 rfl (AR.nil [1, 4, 5, 6, 7, 8, 9, 11, 13, 14, 15] rfl (AW.sr ?_)))))
 refine cs 3 rfl (AR.and 3 72 75 [1, 6, 7, 8, 9, 11, 13, 14, 15] (x := (e1 == 0)) rfl rfl (fun h17 => ?_) (fun h17 => ?_) ?_)
 ·
  refine AR.is 72 h17 rfl (cs 3 rfl (AR.nil [75, 1, 6, 7, 8, 9, 11, 13, 14, 15] rfl ?_))
  exact ⟨rfl, rfl, rfl, rfl⟩
 ·
  refine AR.is 72 h17 rfl (cs 3 rfl (AR.nil [75, 1, 6, 7, 8, 9, 11, 13, 14, 15] rfl ?_))
  exact ⟨rfl, rfl, rfl, rfl⟩
 refine cs 1 rfl (AR.and 3 76 79 [1, 7, 8, 9, 11, 13, 14, 15] (x := (t1 == ([108, 105, 115, 116, 40, 97, 110, 121, 41] : Str))) rfl rfl (fun h18 => ?_) (fun h18 => ?_) ?_)
 ·
  refine AR.is 76 h18 rfl (cs 3 rfl (AR.nil [79, 1, 7, 8, 9, 11, 13, 14, 15] rfl ?_))
  exact ⟨rfl, rfl, rfl, rfl⟩
 ·
  refine AR.is 76 h18 rfl (cs 3 rfl (AR.nil [79, 1, 7, 8, 9, 11, 13, 14, 15] rfl ?_))
  exact ⟨rfl, rfl, rfl, rfl⟩
 refine cs 1 rfl (AR.and 3 80 83 [1, 8, 9, 11, 13, 14, 15] (x := (f1 == 0)) rfl rfl (fun h19 => ?_) (fun h19 => ?_) ?_)
 ·
  refine AR.is 80 h19 rfl (cs 3 rfl (AR.nil [83, 1, 8, 9, 11, 13, 14, 15] rfl ?_))
  exact ⟨rfl, rfl, rfl, rfl⟩
 ·
  refine AR.is 80 h19 rfl (cs 3 rfl (AR.nil [83, 1, 8, 9, 11, 13, 14, 15] rfl ?_))
  exact ⟨rfl, rfl, rfl, rfl⟩
 refine cs 1 rfl (AR.and 3 84 87 [1, 9, 11, 13, 14, 15] (x := (u1 == ([105, 110, 116] : Str))) rfl rfl (fun h20 => ?_) (fun h20 => ?_) ?_)
 ·
  refine AR.is 84 h20 rfl (cs 3 rfl (AR.nil [87, 1, 9, 11, 13, 14, 15] rfl ?_))
  exact ⟨rfl, rfl, rfl, rfl⟩
 ·
  refine AR.is 84 h20 rfl (cs 3 rfl (AR.nil [87, 1, 9, 11, 13, 14, 15] rfl ?_))
  exact ⟨rfl, rfl, rfl, rfl⟩
 refine cs 1 rfl (AR.and 3 88 91 [1, 11, 13, 14, 15] (x := (g1 == 0)) rfl rfl (fun h21 => ?_) (fun h21 => ?_) ?_)
 ·
  refine AR.is 88 h21 rfl (cs 3 rfl (AR.nil [91, 1, 11, 13, 14, 15] rfl ?_))
  exact ⟨rfl, rfl, rfl, rfl⟩
 ·
  refine AR.is 88 h21 rfl (cs 3 rfl (AR.nil [91, 1, 11, 13, 14, 15] rfl ?_))
  exact ⟨rfl, rfl, rfl, rfl⟩
 refine cs 1 rfl (AR.and 3 92 95 [1, 13, 14, 15] (x := (hx1 == 9)) rfl rfl (fun h22 => ?_) (fun h22 => ?_) ?_)
 ·
  refine AR.is 92 h22 rfl (cs 3 rfl (AR.nil [95, 1, 13, 14, 15] rfl ?_))
  exact ⟨rfl, rfl, rfl, rfl⟩
 ·
  refine AR.is 92 h22 rfl (cs 3 rfl (AR.nil [95, 1, 13, 14, 15] rfl ?_))
  exact ⟨rfl, rfl, rfl, rfl⟩
 refine cs 1 rfl (AR.and 3 96 99 [1, 14, 15] (x := (kx1 == 10)) rfl rfl (fun h23 => ?_) (fun h23 => ?_) ?_)
 ·
  refine AR.is 96 h23 rfl (cs 3 rfl (AR.nil [99, 1, 14, 15] rfl ?_))
  exact ⟨rfl, rfl, rfl, rfl⟩
 ·
  refine AR.is 96 h23 rfl (cs 3 rfl (AR.nil [99, 1, 14, 15] rfl ?_))
  exact ⟨rfl, rfl, rfl, rfl⟩
 refine cs 1 rfl (AR.and 3 100 103 [1, 15] (x := (v1 == ([97, 110, 121] : Str))) rfl rfl (fun h24 => ?_) (fun h24 => ?_) ?_)
 ·
  refine AR.is 100 h24 rfl (cs 3 rfl (AR.nil [103, 1, 15] rfl ?_))
  exact ⟨rfl, rfl, rfl, rfl⟩
 ·
  refine AR.is 100 h24 rfl (cs 3 rfl (AR.nil [103, 1, 15] rfl ?_))
  exact ⟨rfl, rfl, rfl, rfl⟩
 refine cs 1 rfl (AR.and 3 104 107 [1] (x := (m1 == 0)) rfl rfl (fun h25 => ?_) (fun h25 => ?_) ?_)
 ·
  refine AR.is 104 h25 rfl (cs 3 rfl (AR.nil [107, 1] rfl ?_))
  exact ⟨rfl, rfl, rfl, rfl⟩
 ·
  refine AR.is 104 h25 rfl (cs 3 rfl (AR.nil [107, 1] rfl ?_))
  exact ⟨rfl, rfl, rfl, rfl⟩
 refine cs 1 rfl ?_
 replace hf := (bind1_ret _).trans hf
 obtain ⟨b1, h27, hf⟩ := bind1_inv hf
 refine AR.join1 4 108 112 true [] b1 rfl rfl (fun h26 => ?_) (fun h26 => ?_) ?_
 ·
  replace h27 := ite_T h26 h27
  refine AR.is 108 h26 rfl (cs 1 rfl ?_)
  obtain ⟨x12, h28, h27⟩ := bind1_inv h27
  refine AR.go rfl rfl rfl rfl rfl rfl (AO.call rfl _ rfl rfl pf_9 (c_check_Env _ h28 (cs 1 rfl ?_)))
  obtain rfl := Option.some.inj h27
  refine cs 1 rfl (AR.nil [112] rfl ?_)
  exact ⟨rfl, rfl, rfl, rfl⟩
 ·
  replace h27 := ite_F h26 h27
  refine AR.is 108 h26 rfl ?_
  obtain rfl := Option.some.inj h27
  refine cs 4 rfl (AR.nil [112] rfl ?_)
  exact ⟨rfl, rfl, rfl, rfl⟩
 refine cs 1 rfl (AR.nil [0] rfl (AW.ret ?_))
 cases hf
 exact ⟨rfl, _, ⟨_, _, rfl, rfl, rfl⟩, [], List.nil_sublist _, h⟩

def sortL_ren : Go.Shelf.Ren := ⟨fun | 6 => 29 | 15 => 57 | 14 => 56 | 28 => 95 | 29 => 96 | 20 => 87 | 21 => 88 | 22 => 89 | 23 => 90 | 24 => 91 | 25 => 92 | 26 => 93 | 27 => 94 | 46 => 120 | 47 => 121 | 48 => 122 | 49 => 123 | 50 => 124 | 57 => 148 | n => n, fun | 22 => 23 | 24 => 9 | 25 => 63 | 3 => 3 | 39 => 86 | 0 => 0 | 53 => 116 | 55 => 118 | 4 => 4 | 46 => 109 | 45 => 108 | 50 => 113 | 5 => 5 | 9 => 9 | 66 => 136 | 70 => 140 | 76 => 166 | 77 => 167 | n => n, fun | n => n⟩
theorem sortL : Go.Proofs.SlLaysF.n6 Tryz.prog sortL_ren := {
 mixed := by kernel_rfl
 f6 := ⟨Tryz.f29.name, by decide, Tryz.func29.trans (congrArg some (by kernel_rfl))⟩
 f14 := ⟨Tryz.f56.name, by decide, Tryz.func56.trans (congrArg some (by kernel_rfl))⟩
 f15 := Tryz.func57.trans (congrArg some (by kernel_rfl))
 f20 := ⟨Tryz.f87.name, by decide, Tryz.func87.trans (congrArg some (by kernel_rfl))⟩
 f21 := ⟨Tryz.f88.name, by decide, Tryz.func88.trans (congrArg some (by kernel_rfl))⟩
 f22 := ⟨Tryz.f89.name, by decide, Tryz.func89.trans (congrArg some (by kernel_rfl))⟩
 f23 := ⟨Tryz.f90.name, by decide, Tryz.func90.trans (congrArg some (by kernel_rfl))⟩
 f24 := ⟨Tryz.f91.name, by decide, Tryz.func91.trans (congrArg some (by kernel_rfl))⟩
 f25 := ⟨Tryz.f92.name, by decide, Tryz.func92.trans (congrArg some (by kernel_rfl))⟩
 f26 := ⟨Tryz.f93.name, by decide, Tryz.func93.trans (congrArg some (by kernel_rfl))⟩
 f27 := ⟨Tryz.f94.name, by decide, Tryz.func94.trans (congrArg some (by kernel_rfl))⟩
 f28 := Tryz.func95.trans (congrArg some (by kernel_rfl))
 f29 := Tryz.func96.trans (congrArg some (by kernel_rfl))
 f46 := ⟨Tryz.f120.name, by decide, Tryz.func120.trans (congrArg some (by kernel_rfl))⟩
 f47 := Tryz.func121.trans (congrArg some (by kernel_rfl))
 f48 := Tryz.func122.trans (congrArg some (by kernel_rfl))
 f49 := ⟨Tryz.f123.name, by decide, Tryz.func123.trans (congrArg some (by kernel_rfl))⟩
 f50 := ⟨Tryz.f124.name, by decide, Tryz.func124.trans (congrArg some (by kernel_rfl))⟩
 f57 := ⟨Tryz.f148.name, by decide, Tryz.func148.trans (congrArg some (by kernel_rfl))⟩
 t0 := Tryz.underlying0
 a0 := Tryz.isAgg0
 z0 := Tryz.sizeOf0
 v0 := Tryz.zeroValue0
 t3 := Tryz.underlying3
 a3 := Tryz.isAgg3
 z3 := Tryz.sizeOf3
 v3 := Tryz.zeroValue3
 t4 := Tryz.underlying4
 a4 := Tryz.isAgg4
 z4 := Tryz.sizeOf4
 v4 := Tryz.zeroValue4
 t5 := Tryz.underlying5
 a5 := Tryz.isAgg5
 z5 := Tryz.sizeOf5
 v5 := Tryz.zeroValue5
 t9 := Tryz.underlying9
 a9 := Tryz.isAgg9
 z9 := Tryz.sizeOf9
 v9 := Tryz.zeroValue9
 t22 := Tryz.underlying23
 a22 := Tryz.isAgg23
 z22 := Tryz.sizeOf23
 v22 := Tryz.zeroValue23
 a24 := Tryz.isAgg9
 z24 := Tryz.sizeOf9
 t25 := Tryz.underlying63
 a25 := Tryz.isAgg63
 z25 := Tryz.sizeOf63
 v25 := Tryz.zeroValue63
 t39 := Tryz.underlying86
 a39 := Tryz.isAgg86
 z39 := Tryz.sizeOf86
 v39 := Tryz.zeroValue86
 t45 := Tryz.underlying108
 a45 := Tryz.isAgg108
 z45 := Tryz.sizeOf108
 v45 := Tryz.zeroValue108
 t46 := Tryz.underlying109
 a46 := Tryz.isAgg109
 z46 := Tryz.sizeOf109
 v46 := Tryz.zeroValue109
 t50 := Tryz.underlying113
 a50 := Tryz.isAgg113
 z50 := Tryz.sizeOf113
 v50 := Tryz.zeroValue113
 t53 := Tryz.underlying116
 a53 := Tryz.isAgg116
 z53 := Tryz.sizeOf116
 v53 := Tryz.zeroValue116
 t55 := Tryz.underlying118
 a55 := Tryz.isAgg118
 z55 := Tryz.sizeOf118
 v55 := Tryz.zeroValue118
 t66 := Tryz.underlying136
 a66 := Tryz.isAgg136
 z66 := Tryz.sizeOf136
 v66 := Tryz.zeroValue136
 t70 := Tryz.underlying140
 a70 := Tryz.isAgg140
 z70 := Tryz.sizeOf140
 v70 := Tryz.zeroValue140
 t76 := Tryz.underlying166
 a76 := Tryz.isAgg166
 z76 := Tryz.sizeOf166
 v76 := Tryz.zeroValue166
 t77 := Tryz.underlying167
 a77 := Tryz.isAgg167
 z77 := Tryz.sizeOf167
 v77 := Tryz.zeroValue167 }
def compactL_ren : Go.Shelf.Ren := ⟨fun | 194 => 32 | n => n, fun | 31 => 23 | 9 => 9 | 3 => 3 | 4 => 4 | 0 => 0 | n => n, fun | n => n⟩
theorem compactL : Go.Proofs.Lays.n194 Tryz.prog compactL_ren := {
 mixed := by kernel_rfl
 f194 := Tryz.func32.trans (congrArg some (by kernel_rfl))
 t0 := Tryz.underlying0
 a0 := Tryz.isAgg0
 z0 := Tryz.sizeOf0
 v0 := Tryz.zeroValue0
 t3 := Tryz.underlying3
 a3 := Tryz.isAgg3
 z3 := Tryz.sizeOf3
 v3 := Tryz.zeroValue3
 t4 := Tryz.underlying4
 a4 := Tryz.isAgg4
 z4 := Tryz.sizeOf4
 v4 := Tryz.zeroValue4
 t9 := Tryz.underlying9
 a9 := Tryz.isAgg9
 z9 := Tryz.sizeOf9
 v9 := Tryz.zeroValue9
 t31 := Tryz.underlying23
 a31 := Tryz.isAgg23
 z31 := Tryz.sizeOf23
 v31 := Tryz.zeroValue23 }


theorem strC_flat : ∀ l : List Str, (List.map strC l).flatten = l.map PV.str
 | [] => rfl
 | s :: l => congrArg (PV.str s :: ·) (strC_flat l)

theorem c_slices_Clone_s (l : List Str) (hl : l.length ≤ LIM) {Q : AOut → List Res → Prop} (h : ∀ v, Q (.ret (.val v)) [.buf v l.length 1 9 (l.map PV.str)]) : AC Tryz.prog 28 [.list (List.map strC l)] [] Q := by
 refine AC.of_body 8 [.tmp 2] [0] Tryz.func28 rfl rfl rfl rfl rfl (AW.sr (AR.step rfl rfl rfl (AO.nil_list rfl rfl (AR.nil [0] rfl ?_))))
 refine AW.seq (AW.sr (cs 1 rfl (AR.step rfl rfl rfl (AO.eq_nil_slice rfl rfl un_23 (fun b hb => ?_)))))
 refine AR.nil [0, 4] rfl (AW.cond rfl (fun h1 => ?_) (fun h1 => ?_))
 ·
  obtain rfl : l = [] := List.map_eq_nil_iff.1 (hb h1)
  refine AW.sr (AR.step rfl rfl rfl (AO.own_val rfl rfl (AR.nil [2] rfl (AW.buf0 1 9 ?_))))
  refine AW.ret ?_
  exact ⟨rfl, _, ⟨_, _, rfl, rfl, rfl⟩, _, List.Sublist.refl _, h _⟩
 ·
  refine AW.skip (AW.sr (AR.step rfl rfl rfl (AO.buildSlice_ownF [] rfl sf_23 rfl rfl rfl rfl rfl (fun v1 => (cs 1 rfl ?_)))))
  refine AR.step rfl rfl rfl (AO.append_buf (i := 0) (l2 := List.map strC l) rfl rfl rfl rfl rfl rfl rfl sf_23 es_23 (fun y hy => ?_) (fun y hy => ?_) ?_ ?_ (fun v2 s1 hs1 => ?_))
  ·
   obtain ⟨s, _, rfl⟩ := List.mem_map.1 hy; rfl
  ·
   obtain ⟨s, _, rfl⟩ := List.mem_map.1 hy; rfl
  ·
   rw [List.length_map]; unfold LIM at hl; unfold maxLen; omega
  ·
   rw [List.length_map]; unfold LIM at hl; omega
  cases hs1
  refine cs 1 rfl (AR.nil [2] rfl (AW.ret ?_))
  have hv := h v2
  rw [← strC_flat, show l.length = (List.map strC l).length from (List.length_map _).symm] at hv
  exact ⟨rfl, _, ⟨_, _, rfl, rfl, rfl⟩, _, List.Sublist.refl _, hv⟩

theorem c_slices_Clip_s (l : List Str) {Q : AOut → List Res → Prop} (h : Q (.ret (.list (List.map strC l))) []) : AC Tryz.prog 31 [.list (List.map strC l)] [] Q := by
 refine AC.of_body 9 [.tmp 2] [0] Tryz.func31 rfl rfl rfl rfl rfl (AW.sr (AR.step rfl rfl rfl (AO.nil_list rfl rfl (AR.nil [0] rfl ?_))))
 refine AW.sr (cs 2 rfl (AR.step rfl rfl rfl (AO.len_list (l := l) rfl rfl rfl rfl es_23 rfl rfl (cs 1 rfl ?_))))
 refine AR.step rfl rfl rfl (AO.len_list (l := l) rfl rfl rfl rfl es_23 rfl rfl (AR.step rfl rfl rfl (AO.clip (l := List.map strC l) rfl es_23 rfl (by rw [List.length_map]; rfl) (by rw [List.length_map]; rfl) ?_)))
 refine cs 1 rfl (AR.nil [2] rfl (AW.ret ?_))
 exact ⟨rfl, _, ⟨_, _, rfl, rfl, rfl⟩, _, List.Sublist.refl _, h⟩

theorem natOrder : Go.Sort.SWO (Go.Proofs.ltOf fun a b : shortS => natCmp a.1 b.1) where
 irrefl := fun x => by simp [Go.Proofs.ltOf, natCmp_self]
 trans := fun x y z h1 h2 => by
  simp only [Go.Proofs.ltOf, decide_eq_true_eq] at *
  exact natCmp_trans h1 h2
 ntrans := fun x y z h1 h2 => by
  simp only [Go.Proofs.ltOf, decide_eq_false_iff_not] at *
  exact natCmp_ntrans h1 h2

theorem c_ident_Sorted (names1 : List Str) {r0 : List Str} (hf : ident_Sorted names1 = some r0) {τ : List Res} {Q : AOut → List Res → Prop} (h : Q (.ret (.list (List.map strC r0))) τ) : AC Tryz.prog 16 [.list (List.map strC names1)] τ Q := by
 unfold ident_Sorted at hf
 split at hf
 case isFalse => cases hf
 rename_i hg
 simp only [Bool.and_eq_true, List.all_eq_true, decide_eq_true_eq] at hg
 obtain ⟨hg1, hg2⟩ := hg
 cases hf
 refine AC.none (AC.of_body 11 [.tmp 2] [0] Tryz.func16 rfl rfl rfl rfl rfl (AW.sr (AR.step rfl rfl rfl (AO.nil_list rfl rfl ?_))))
 refine AR.nil [0] rfl (AW.sr (cs 1 rfl (AR.step rfl rfl rfl (AO.call rfl _ rfl rfl pf_28 (c_slices_Clone_s names1 hg2 fun v => ?_)))))
 refine cs 1 rfl (AR.nil [3] rfl (AW.sr (cs 1 rfl ?_)))
 refine AR.step rfl rfl rfl (AO.call rfl _ rfl rfl pf_29 (AC.sortFunc sortL pf_30 (cf := natCmp) (fun a b ha hb => c_ident_Compare a b (natCmp_eq ha hb) rfl) natOrder (fun x y h1 h2 => natCmp_zero (by have := natCmp_neg x.1 y.1; omega)) hg1 (by unfold LIM at hg2; omega) ?_))
 refine AR.nil [3] rfl (AW.sr (cs 1 rfl (AR.step rfl rfl rfl (AO.call rfl _ rfl rfl pf_32 (AC.compactS compactL (by rw [List.length_mergeSort]; unfold LIM at hg2; omega) fun v2 => ?_)))))
 refine AR.freeze 9 0 (List.map strC (natSet names1)) rfl rfl (strC_flat _) (fun x hx => by obtain ⟨s, _, rfl⟩ := List.mem_map.1 hx; rfl) (List.length_map _) ?_
 refine AR.step rfl rfl rfl (AO.call rfl _ rfl rfl pf_31 (AC.none (c_slices_Clip_s _ (cs 1 rfl (AR.nil [2] rfl (AW.ret ?_))))))
 exact ⟨rfl, _, ⟨_, _, rfl, rfl, rfl⟩, [], List.nil_sublist _, h⟩

theorem w_check_Names_1 (bo bv : Nat) (go : ApiExpr → List Str → Option (List Str)) (hgo : ∀ (e1 : ApiExpr) (out1 : List Str) {r0 : List Str}, go e1 out1 = some r0 → ∀ {v1 : Value} {Q : AOut → List Res → Prop}, (∀ vr, Q (.ret (.tuple [])) [.row vr (List.map strC r0).length 1 9, .box bo [.own vr (List.map strC r0)], .box bv [.fn 15 [.val (.pointer (some ⟨bo, 0, none⟩)), .val (.pointer (some ⟨bv, 0, none⟩))]]]) → AC Tryz.prog 15 [.agg [.int .i64 e1.kind, .str e1.name, .int .i64 e1.value.kind, .bool e1.value.bool_, .int .i64 e1.value.int_, .str e1.value.str_, .list (ApiValue.cellsL e1.value.list_), .list (List.map strC e1.value.keys), .list (ApiExpr.cellsL e1.args), .list (List.map strC e1.keys)], .val (.pointer (some ⟨bo, 0, none⟩)), .val (.pointer (some ⟨bv, 0, none⟩))] [.row v1 (List.map strC out1).length 1 9, .box bo [.own v1 (List.map strC out1)], .box bv [.fn 15 [.val (.pointer (some ⟨bo, 0, none⟩)), .val (.pointer (some ⟨bv, 0, none⟩))]]] Q)
  (e1 : ApiExpr) (out1 : List Str) {r0 : List Str} (hf : check_Names_1_b go e1 out1 = some r0) {v1 : Value} {Q : AOut → List Res → Prop} (h : ∀ vr, Q (.ret (.tuple [])) [.row vr (List.map strC r0).length 1 9, .box bo [.own vr (List.map strC r0)], .box bv [.fn 15 [.val (.pointer (some ⟨bo, 0, none⟩)), .val (.pointer (some ⟨bv, 0, none⟩))]]]) : AC Tryz.prog 15 [.agg [.int .i64 e1.kind, .str e1.name, .int .i64 e1.value.kind, .bool e1.value.bool_, .int .i64 e1.value.int_, .str e1.value.str_, .list (ApiValue.cellsL e1.value.list_), .list (List.map strC e1.value.keys), .list (ApiExpr.cellsL e1.args), .list (List.map strC e1.keys)], .val (.pointer (some ⟨bo, 0, none⟩)), .val (.pointer (some ⟨bv, 0, none⟩))] [.row v1 (List.map strC out1).length 1 9, .box bo [.own v1 (List.map strC out1)], .box bv [.fn 15 [.val (.pointer (some ⟨bo, 0, none⟩)), .val (.pointer (some ⟨bv, 0, none⟩))]]] Q := by
 unfold check_Names_1_b at hf
 refine AC.of_body 25 [] [0, 1, 2] Tryz.func15 rfl rfl rfl rfl rfl (AW.sr (AR.step rfl rfl rfl (AO.box_ref rfl rfl rfl (AR.nil [1, 2, 3] rfl ?_))))
 refine AW.seq (AW.cutF2 (fun (l : List Str) (v : Value) => [(1, .val (.pointer (some ⟨bo, 0, none⟩))), (2, .val (.pointer (some ⟨bv, 0, none⟩))), (3, .ref [.int .i64 e1.kind, .str e1.name, .int .i64 e1.value.kind, .bool e1.value.bool_, .int .i64 e1.value.int_, .str e1.value.str_, .list (ApiValue.cellsL e1.value.list_), .list (List.map strC e1.value.keys), .list (ApiExpr.cellsL e1.args), .list (List.map strC e1.keys)])]) (fun l v => [.row v (List.map strC l).length 1 9, .box bo [.own v (List.map strC l)], .box bv [.fn 15 [.val (.pointer (some ⟨bo, 0, none⟩)), .val (.pointer (some ⟨bv, 0, none⟩))]]]) (fun l v => check_Names_1_l1 go e1 BIG l 0 = some r0) ?_ ?_)
 ·
  refine AW.sr (cs 3 rfl (AR.nil [1, 2, 3, 8] rfl (AW.cond rfl (fun h1 => ?_) (fun h1 => ?_))))
  ·
   replace hf := ite_T h1 hf
   refine AW.region (AR.step rfl rfl rfl (AO.load_box (i := 1) rfl rfl rfl ti_23 rfl rfl (cs 2 rfl (AR.step rfl rfl rfl (AO.buildSliceF (List.map strC ([e1.name] : List Str)) rfl sf_23 rfl rfl rfl rfl ?_)))))
   obtain ⟨out2, h2, hf⟩ := bind1_inv hf
   refine AR.step rfl rfl rfl (AO.app_own (i := 0) (l := out1) (m := [e1.name]) h2 rfl rfl rfl rfl rfl rfl rfl sf_23 es_23 rfl rfl rfl (fun _ => rfl) (fun _ => rfl) (by decide) (fun v2 s1 hs1 => ?_))
   cases hs1
   refine AR.step_none rfl rfl (AO.store_box (i := 1) rfl rfl rfl ti_23 rfl rfl rfl rfl rfl (AR.nil [1, 2, 3] rfl ?_))
   exact ⟨out2, v2, rfl, rfl, rfl, hf⟩
  ·
   replace hf := ite_F h1 hf
   refine AW.settle [1, 2, 3] rfl (AW.skip ?_)
   exact ⟨out1, v1, rfl, rfl, rfl, hf⟩
 ·
  intro out2 v2 hf
  refine AW.sr (cs 2 rfl (AR.step rfl rfl rfl (AO.len_list (l := e1.args) rfl rfl rfl rfl es_26 rfl (ApiExpr.cellsL_eq _) (cs 1 rfl ?_))))
  refine AR.nil [1, 2, 15, 16, 17] rfl (AW.block (AW.settle [1, 2, 15, 16, 17] rfl (AW.loopF3 (fun (l : List Str) (v : Value) (i1 : Int) => [(1, .val (.pointer (some ⟨bo, 0, none⟩))), (2, .val (.pointer (some ⟨bv, 0, none⟩))), (15, .list (ApiExpr.cellsL e1.args)), (16, .int .i64 (e1.args.length : Int)), (17, .int .i64 i1)]) (fun l v i1 => [.row v (List.map strC l).length 1 9, .box bo [.own v (List.map strC l)], .box bv [.fn 15 [.val (.pointer (some ⟨bo, 0, none⟩)), .val (.pointer (some ⟨bv, 0, none⟩))]]]) (fun kk1 l v i1 => check_Names_1_l1 go e1 kk1 l i1 = some r0) BIG out2 v2 0 rfl rfl hf (fun _ _ _ hz => none_no hz) ?_)))
  intro kk1 out3 v3 i1 hf
  rw [check_Names_1_l1] at hf
  refine AW.sr (cs 1 rfl (AR.nil [1, 2, 15, 16, 17, 18] rfl (AW.seq ?_)))
  refine AW.cond rfl (fun h1 => ?_) (fun h1 => ?_)
  ·
   replace hf := ite_T h1 hf
   refine AW.skip (AW.seq (AW.block (AW.sr ?_)))
   obtain ⟨a1, h2, hf⟩ := bind1_inv hf
   refine AR.step rfl rfl rfl (AO.idx_list h2 rfl rfl (ApiExpr.cellsL_eq _) rfl es_26 (ApiExpr.cells_eq _) rfl (cs 1 rfl (AR.step rfl rfl rfl (AO.alloc_own rfl zp_28 (fun b5 => (AR.step_none rfl rfl (AO.store_box (i := 0) rfl rfl rfl ti_28 rfl rfl rfl rfl rfl ?_)))))))
   refine AR.nil [1, 2, 5, 15, 16, 17] rfl (AW.region (AR.step rfl rfl rfl (AO.load_box (i := 3) rfl rfl rfl ti_50 rfl rfl (AR.step rfl rfl rfl (AO.load_box (i := 0) rfl rfl rfl ti_28 rfl rfl ?_)))))
   refine AR.drop1 ?_
   obtain ⟨out4, h3, hf⟩ := bind1_inv hf
   refine AR.step rfl rfl rfl (AO.call rfl _ rfl rfl pf_15 (hgo _ _ h3 fun v4 => (AR.nil [1, 2, 15, 16, 17] rfl (AW.region (cs 2 rfl ?_)))))
   refine AR.nil [1, 2, 15, 16, 17] rfl ?_
   exact ⟨out4, v4, (w64 (i1 + 1)), rfl, rfl, rfl, hf⟩
  ·
   replace hf := ite_F h1 hf
   refine AW.exit ?_
   cases hf
   exact ⟨rfl, _, rfl, _, List.Sublist.refl _, h v3⟩

theorem n_check_Names_1 (bo bv : Nat) : ∀ (k : Nat) (e1 : ApiExpr) (out1 : List Str) {r0 : List Str}, check_Names_1_n k e1 out1 = some r0 → ∀ {v1 : Value} {Q : AOut → List Res → Prop}, (∀ vr, Q (.ret (.tuple [])) [.row vr (List.map strC r0).length 1 9, .box bo [.own vr (List.map strC r0)], .box bv [.fn 15 [.val (.pointer (some ⟨bo, 0, none⟩)), .val (.pointer (some ⟨bv, 0, none⟩))]]]) → AC Tryz.prog 15 [.agg [.int .i64 e1.kind, .str e1.name, .int .i64 e1.value.kind, .bool e1.value.bool_, .int .i64 e1.value.int_, .str e1.value.str_, .list (ApiValue.cellsL e1.value.list_), .list (List.map strC e1.value.keys), .list (ApiExpr.cellsL e1.args), .list (List.map strC e1.keys)], .val (.pointer (some ⟨bo, 0, none⟩)), .val (.pointer (some ⟨bv, 0, none⟩))] [.row v1 (List.map strC out1).length 1 9, .box bo [.own v1 (List.map strC out1)], .box bv [.fn 15 [.val (.pointer (some ⟨bo, 0, none⟩)), .val (.pointer (some ⟨bv, 0, none⟩))]]] Q
 | 0, _, _, _, hz => none_no hz
 | k + 1, e1, out1, r0, hz => by
  intro h
  exact w_check_Names_1 bo bv (check_Names_1_n k) (fun e1 out1 r0 hz => n_check_Names_1 bo bv k e1 out1 hz) e1 out1 hz h

theorem c_check_Names (e1 : ApiExpr) {r0 : List Str} (hf : check_Names e1 = some r0) {τ : List Res} {Q : AOut → List Res → Prop} (h : Q (.ret (.list (List.map strC r0))) τ) : AC Tryz.prog 7 [.agg [.int .i64 e1.kind, .str e1.name, .int .i64 e1.value.kind, .bool e1.value.bool_, .int .i64 e1.value.int_, .str e1.value.str_, .list (ApiValue.cellsL e1.value.list_), .list (List.map strC e1.value.keys), .list (ApiExpr.cellsL e1.args), .list (List.map strC e1.keys)]] τ Q := by
 unfold check_Names at hf
 refine AC.none (AC.of_body 11 [.tmp 2] [0] Tryz.func7 rfl rfl rfl rfl rfl (AW.sr (AR.step rfl rfl rfl (AO.box_ref rfl rfl rfl ?_))))
 refine AR.step rfl rfl rfl (AO.nil_list rfl rfl (AR.nil [1] rfl (AW.row 1 9 (AW.sr ?_))))
 refine AR.step rfl rfl rfl (AO.alloc_own rfl zp_23 (fun bo => (AR.nil [1, 3] rfl (AW.sr (AR.step rfl rfl rfl (AO.alloc_own rfl zp_50 (fun bv => ?_)))))))
 refine AR.nil [1, 3, 4] rfl (AW.sr (AR.step rfl rfl rfl (AO.calc' rfl (AR.step_none rfl rfl (AO.store_box (i := 0) rfl rfl rfl ti_50 rfl rfl rfl rfl rfl ?_)))))
 refine AR.nil [1, 3, 4] rfl (AW.sr (AR.step rfl rfl rfl (AO.load_box (i := 0) rfl rfl rfl ti_50 rfl rfl (cs 1 rfl ?_))))
 obtain ⟨out1, h1, hf⟩ := bind1_inv hf
 refine AR.step rfl rfl rfl (AO.call rfl _ rfl rfl pf_15 (AC.perm ((List.Perm.swap _ _ _).trans ((List.Perm.cons _ (List.Perm.swap _ _ _)).trans (List.Perm.swap _ _ _))) (n_check_Names_1 bo bv BIG e1 [] h1 fun v1 => (AR.nil [3] rfl (AW.sr (AR.step rfl rfl rfl (AO.load_box (i := 1) rfl rfl rfl ti_23 rfl rfl ?_)))))))
 refine AR.step rfl rfl rfl (AO.call rfl _ rfl rfl pf_16 (c_ident_Sorted _ hf (cs 1 rfl (AR.nil [2] rfl (AW.ret ?_)))))
 exact ⟨rfl, _, ⟨_, _, rfl, rfl, rfl⟩, [], List.nil_sublist _, h⟩

theorem w_r08_Same (go_r08_Same : ApiType → ApiType → Option Bool) (go_r08_SameH : ∀ (ua1 : ApiType) (ub1 : ApiType) {urr1x0 : Bool}, go_r08_Same ua1 ub1 = some urr1x0 → ∀ {τ : List Res} {Q : AOut → List Res → Prop} (h : Q (.ret (.bool urr1x0)) τ), AC Tryz.prog 12 [.agg [.int .i64 ua1.kind, .list (ApiType.cellsL ua1.elem)], .agg [.int .i64 ub1.kind, .list (ApiType.cellsL ub1.elem)]] τ Q) (a1 : ApiType) (b1 : ApiType) {r0 : Bool} (hf : r08_Same_b go_r08_Same a1 b1 = some r0) {τ : List Res} {Q : AOut → List Res → Prop} (h : Q (.ret (.bool r0)) τ) : AC Tryz.prog 12 [.agg [.int .i64 a1.kind, .list (ApiType.cellsL a1.elem)], .agg [.int .i64 b1.kind, .list (ApiType.cellsL b1.elem)]] τ Q := by
 unfold r08_Same_b at hf
 refine AC.none (AC.of_body 39 [.tmp 4] [0, 1] Tryz.func12 rfl rfl rfl rfl rfl (AW.sr (AR.step rfl rfl rfl (AO.box_ref rfl rfl rfl ?_))))
 refine AR.step rfl rfl rfl (AO.box_ref rfl rfl rfl (cs 1 rfl (AR.nil [2, 3] rfl (AW.seq ?_))))
 refine AW.sr (cs 6 rfl (AR.or 8 11 19 [2, 3] (x := ((a1.elem.length : Int) != (b1.elem.length : Int))) rfl rfl (fun h1 => ?_) (fun h1 => ?_) ?_))
 ·
  refine AR.is 11 h1 rfl (cs 2 rfl (AR.go rfl rfl rfl rfl rfl rfl (AO.len_list (l := a1.elem) rfl rfl rfl rfl es_37 rfl (ApiType.cellsL_eq _) (cs 2 rfl ?_))))
  refine AR.go rfl rfl rfl rfl rfl rfl (AO.len_list (l := b1.elem) rfl rfl rfl rfl es_37 rfl (ApiType.cellsL_eq _) (cs 2 rfl (AR.nil [19, 2, 3] rfl ?_)))
  exact ⟨rfl, rfl, rfl, rfl⟩
 ·
  refine AR.is 11 h1 rfl (cs 8 rfl (AR.nil [19, 2, 3] rfl ?_))
  exact ⟨rfl, rfl, rfl, rfl⟩
 refine AR.nil [2, 3, 19] rfl (AW.cond rfl (fun h2 => ?_) (fun h2 => ?_))
 ·
  replace hf := ite_T h2 hf
  refine AW.sr (cs 1 rfl (AR.nil [4] rfl (AW.ret ?_)))
  cases hf
  exact ⟨rfl, _, ⟨_, _, rfl, rfl, rfl⟩, [], List.nil_sublist _, h⟩
 ·
  replace hf := ite_F h2 hf
  refine AW.skip (AW.seq (AW.sr (cs 1 rfl ?_)))
  refine AR.nil [2, 3, 5] rfl (AW.block (AW.settle [2, 3, 5] rfl (AW.loopF1 (fun i1 => [(2, .ref [.int .i64 a1.kind, .list (ApiType.cellsL a1.elem)]), (3, .ref [.int .i64 b1.kind, .list (ApiType.cellsL b1.elem)]), (5, .int .i64 i1)]) (fun i1 => []) (fun kk1 i1 => r08_Same_l1 go_r08_Same a1 b1 kk1 i1 = some r0) BIG 0 rfl rfl hf (fun _ hz => none_no hz) ?_)))
  intro kk1 i1 hf
  rw [r08_Same_l1] at hf
  refine AW.seq (AW.sr (cs 3 rfl (AR.step rfl rfl rfl (AO.len_list (l := a1.elem) rfl rfl rfl rfl es_37 rfl (ApiType.cellsL_eq _) ?_))))
  refine cs 1 rfl (AR.nil [2, 3, 5, 24] rfl (AW.cond rfl (fun h3 => ?_) (fun h3 => ?_)))
  ·
   replace hf := ite_T h3 hf
   refine AW.skip (AW.seq (AW.block (AW.seq ?_)))
   refine AW.draw 12 mixed (by kernel_rfl) rfl ?_
   refine Ev.cs FX_ok 3 rfl ?_
   obtain ⟨e1, h4, hf⟩ := bind1_inv hf
   refine Ev.cons rfl rfl rfl (AO.idx_list h4 rfl rfl (ApiType.cellsL_eq _) rfl es_37 (ApiType.cells_eq _) rfl ⟨rfl, rfl⟩) (Ev.cs FX_ok 4 rfl ?_)
   obtain ⟨e2, h5, hf⟩ := bind1_inv hf
   refine Ev.cons rfl rfl rfl (AO.idx_list h5 rfl rfl (ApiType.cellsL_eq _) rfl es_37 (ApiType.cells_eq _) rfl ⟨rfl, rfl⟩) (Ev.cs FX_ok 1 rfl ?_)
   obtain ⟨x1, h6, hf⟩ := bind1_inv hf
   refine Ev.cons rfl rfl rfl (AO.call rfl _ rfl rfl pf_12 (go_r08_SameH _ _ h6 ⟨rfl, rfl⟩)) (Ev.cs FX_ok 1 rfl (Ev.nil ?_))
   show AR _ _ _ _ _ _ _ _
   refine AR.nil [2, 3, 5, 38] rfl (AW.cond rfl (fun h7 => ?_) (fun h7 => ?_))
   ·
    replace hf := ite_T h7 hf
    refine AW.sr (cs 1 rfl (AR.nil [4] rfl (AW.ret ?_)))
    cases hf
    exact ⟨rfl, _, ⟨_, _, rfl, rfl, rfl⟩, [], List.nil_sublist _, h⟩
   ·
    replace hf := ite_F h7 hf
    refine AW.skip (AW.region (cs 3 rfl (AR.nil [2, 3, 5] rfl ?_)))
    exact ⟨(w64 (i1 + 1)), rfl, rfl, rfl, hf⟩
  ·
   replace hf := ite_F h3 hf
   refine AW.exit (AW.sr (cs 1 rfl (AR.nil [4] rfl ?_)))
   refine AW.ret ?_
   cases hf
   exact ⟨rfl, _, ⟨_, _, rfl, rfl, rfl⟩, [], List.nil_sublist _, h⟩

theorem n_r08_Same : ∀ k : Nat, (∀ (ua1 : ApiType) (ub1 : ApiType) {urr1x0 : Bool}, r08_Same_n k ua1 ub1 = some urr1x0 → ∀ {τ : List Res} {Q : AOut → List Res → Prop} (h : Q (.ret (.bool urr1x0)) τ), AC Tryz.prog 12 [.agg [.int .i64 ua1.kind, .list (ApiType.cellsL ua1.elem)], .agg [.int .i64 ub1.kind, .list (ApiType.cellsL ub1.elem)]] τ Q) := by
 intro k
 induction k with
 | zero => exact fun _ _ _ hz => by first | cases hz | (unfold r08_Same_n at hz; cases hz)
 | succ k ih => exact fun ua1 ub1 urr1x0 hz τ Q hq => w_r08_Same (r08_Same_n k) ih ua1 ub1 hz hq
theorem c_r08_Same (ua1 : ApiType) (ub1 : ApiType) {urr1x0 : Bool} (hf : r08_Same ua1 ub1 = some urr1x0) {τ : List Res} {Q : AOut → List Res → Prop} (h : Q (.ret (.bool urr1x0)) τ) : AC Tryz.prog 12 [.agg [.int .i64 ua1.kind, .list (ApiType.cellsL ua1.elem)], .agg [.int .i64 ub1.kind, .list (ApiType.cellsL ub1.elem)]] τ Q :=
 ((n_r08_Same BIG)) ua1 ub1 hf h

theorem c_l11_CheckUnused  (e1 : ApiExpr) (env1 : List ApiDecl) (d1 : ApiDecl) {r0 : Bool} (hf : l11_CheckUnused e1 env1 d1 = some r0) {τ : List Res} {Q : AOut → List Res → Prop} (h : Q (.ret (.bool r0)) τ) : AC Tryz.prog 4 [.agg [.int .i64 e1.kind, .str e1.name, .int .i64 e1.value.kind, .bool e1.value.bool_, .int .i64 e1.value.int_, .str e1.value.str_, .list (ApiValue.cellsL e1.value.list_), .list (List.map strC e1.value.keys), .list (ApiExpr.cellsL e1.args), .list (List.map strC e1.keys)], .list (List.map ApiDecl.cells env1), .agg [.str d1.name, .int .i64 d1.type_.kind, .list (ApiType.cellsL d1.type_.elem)]] τ Q := by
 unfold l11_CheckUnused at hf
 refine AC.none (AC.of_body 70 [.tmp 6] [0, 1, 2] Tryz.func4 rfl rfl rfl rfl rfl (AW.sr (AR.step rfl rfl rfl (AO.box_ref rfl rfl rfl ?_))))
 refine AR.step rfl rfl rfl (AO.box_ref rfl rfl rfl (cs 1 rfl (AR.nil [1, 3, 5] rfl (AW.seq ?_))))
 refine AW.sr (cs 2 rfl (AR.step rfl rfl rfl (AO.len_list (l := env1) rfl rfl rfl rfl es_29 rfl rfl ?_)))
 obtain ⟨x1, h1, hf⟩ := bind1_inv hf
 refine AR.step rfl rfl rfl (AO.call rfl _ rfl rfl pf_5 (c_l11_small _ _ h1 (cs 1 rfl (AR.nil [1, 3, 5, 18] rfl (AW.cond rfl (fun h2 => ?_) (fun h2 => ?_))))))
 ·
  replace hf := ite_T h2 hf
  refine AW.sr ?_
  replace hf := (bind1_ret _).trans hf
  obtain ⟨x2, h3, hf⟩ := bind1_inv hf
  refine AR.step rfl rfl rfl (AO.call rfl _ rfl rfl pf_6 (c_l11_awake  h3 (cs 1 rfl (AR.nil [6] rfl (AW.ret ?_)))))
  cases hf
  exact ⟨rfl, _, ⟨_, _, rfl, rfl, rfl⟩, [], List.nil_sublist _, h⟩
 ·
  replace hf := ite_F h2 hf
  refine AW.skip (AW.sr (cs 1 rfl (AR.nil [1, 3, 5, 7] rfl ?_)))
  refine AW.sr (cs 2 rfl (AR.step rfl rfl rfl (AO.buildSliceF (List.map ApiDecl.cells [d1]) rfl sf_29 rfl rfl rfl (by first | rfl | simp only [List.map, ApiDecl.cells_eq]) ?_)))
  refine AR.row 3 41 ?_
  obtain ⟨more1, h4, hf⟩ := bind1_inv hf
  refine AR.step rfl rfl rfl (AO.app_own (i := 0) (l := []) (m := [d1]) h4 rfl rfl rfl rfl rfl rfl rfl sf_29 es_29 rfl rfl rfl (ApiDecl.cells_len) (ApiDecl.cells_one) (by decide) (fun v1 s1 hs1 => ?_))
  cases hs1
  refine cs 1 rfl (AR.nil [1, 3, 5, 7] rfl (AW.sr (cs 2 rfl ?_)))
  obtain ⟨more2, h5, hf⟩ := bind1_inv hf
  refine AR.step rfl rfl rfl (AO.app_own (i := 0) (l := more1) (m := env1) h5 rfl rfl rfl rfl rfl rfl rfl sf_29 es_29 rfl rfl rfl (ApiDecl.cells_len) (ApiDecl.cells_one) (by decide) (fun v2 s2 hs2 => ?_))
  cases hs2
  refine cs 1 rfl (AR.nil [1, 3, 5, 7] rfl (AW.seq (AW.sr ?_)))
  refine cs 1 rfl ?_
  obtain ⟨x3, h6, hf⟩ := bind1_inv hf
  refine AR.step rfl rfl rfl (AO.call rfl _ rfl rfl pf_9 (c_check_Env _ h6 (cs 1 rfl (AR.nil [1, 3, 5, 7, 29] rfl (AW.cond rfl (fun h7 => ?_) (fun h7 => ?_))))))
  ·
   replace hf := ite_T h7 hf
   refine AW.sr ?_
   replace hf := (bind1_ret _).trans hf
   obtain ⟨x4, h8, hf⟩ := bind1_inv hf
   refine AR.step rfl rfl rfl (AO.call rfl _ rfl rfl pf_6 (c_l11_awake  h8 (cs 1 rfl (AR.nil [6] rfl (AW.ret ?_)))))
   cases hf
   exact ⟨rfl, _, ⟨_, _, rfl, rfl, rfl⟩, [], List.nil_sublist _, h⟩
  ·
   replace hf := ite_F h7 hf
   refine AW.skip (AW.sr (cs 1 rfl ?_))
   obtain ⟨l1, h9, hf⟩ := bind1_inv hf
   refine AR.step rfl rfl rfl (AO.call rfl _ rfl rfl pf_7 (c_check_Names _ h9 (cs 1 rfl (AR.nil [1, 3, 5, 7, 8] rfl (AW.seq ?_)))))
   refine AW.sr (cs 1 rfl (AR.nil [1, 3, 5, 7, 8, 9] rfl (AW.block ?_)))
   refine AW.settle [1, 3, 5, 7, 8, 9] rfl ?_
   refine AW.loopF1 (fun i1 => [(1, .list (List.map ApiDecl.cells env1)), (3, .ref [.int .i64 e1.kind, .str e1.name, .int .i64 e1.value.kind, .bool e1.value.bool_, .int .i64 e1.value.int_, .str e1.value.str_, .list (ApiValue.cellsL e1.value.list_), .list (List.map strC e1.value.keys), .list (ApiExpr.cellsL e1.args), .list (List.map strC e1.keys)]), (5, .ref [.str d1.name, .int .i64 d1.type_.kind, .list (ApiType.cellsL d1.type_.elem)]), (7, .own v2 (List.map ApiDecl.cells more2)), (8, .list (List.map strC l1)), (9, .int .i64 i1)]) (fun i1 => [.row v2 (List.map ApiDecl.cells more2).length 3 41]) (fun kk1 i1 => l11_CheckUnused_l1 e1 env1 d1 more2 l1 kk1 i1 = some r0) BIG 0 rfl rfl hf (fun _ hz => none_no hz) ?_
   intro kk1 i1 hf
   rw [l11_CheckUnused_l1] at hf
   refine AW.seq (AW.sr (cs 2 rfl (AR.step rfl rfl rfl (AO.len_list (l := l1) rfl rfl rfl rfl es_23 rfl rfl ?_))))
   refine cs 1 rfl (AR.nil [1, 3, 5, 7, 8, 9, 36] rfl (AW.cond rfl (fun h10 => ?_) (fun h10 => ?_)))
   ·
    replace hf := ite_T h10 hf
    refine AW.skip (AW.seq (AW.block (AW.seq ?_)))
    refine AW.draw 7 mixed (by kernel_rfl) rfl ?_
    refine Ev.cs FX_ok 2 rfl ?_
    obtain ⟨e2, h11, hf⟩ := bind1_inv hf
    refine Ev.cons rfl rfl rfl (AO.idx_list h11 rfl rfl rfl rfl es_23 rfl rfl ⟨rfl, rfl⟩) (Ev.cs FX_ok 4 rfl (Ev.nil ?_))
    show AR _ _ _ _ _ _ _ _
    refine AR.nil [1, 3, 5, 7, 8, 9, 45] rfl (AW.cond rfl (fun h12 => ?_) (fun h12 => ?_))
    ·
     replace hf := ite_T h12 hf
     refine AW.sr ?_
     replace hf := (bind1_ret _).trans hf
     obtain ⟨x5, h13, hf⟩ := bind1_inv hf
     refine AR.step rfl rfl rfl (AO.call rfl _ rfl rfl pf_6 (c_l11_awake  h13 (cs 1 rfl (AR.nil [6] rfl (AW.ret ?_)))))
     cases hf
     exact ⟨rfl, _, ⟨_, _, rfl, rfl, rfl⟩, [], List.nil_sublist _, h⟩
    ·
     replace hf := ite_F h12 hf
     refine AW.skip (AW.region (cs 3 rfl (AR.nil [1, 3, 5, 7, 8, 9] rfl ?_)))
     exact ⟨(w64 (i1 + 1)), rfl, rfl, rfl, hf⟩
   ·
    replace hf := ite_F h10 hf
    refine AW.exit (AW.sr (cs 2 rfl ?_))
    obtain ⟨x6, f1, h14, hf⟩ := bind2_inv hf
    refine AR.step rfl rfl rfl (AO.call rfl _ rfl rfl pf_11 (c_check_Expr _ _ h14 (cs 3 rfl (AR.step rfl rfl rfl (AO.alloc_own rfl zp_39 (fun b10 => (AR.step_none rfl rfl (AO.store_box (i := 0) rfl rfl rfl ti_39 rfl rfl rfl rfl rfl ?_))))))))
    refine cs 1 rfl (AR.nil [3, 7, 10, 11] rfl (AW.sr (cs 2 rfl ?_)))
    obtain ⟨x7, g1, h15, hf⟩ := bind2_inv hf
    refine AR.step rfl rfl rfl (AO.call rfl _ rfl rfl pf_11 (c_check_Expr _ _ h15 (cs 3 rfl (AR.step rfl rfl rfl (AO.alloc_own rfl zp_39 (fun b12 => (AR.step_none rfl rfl (AO.store_box (i := 0) rfl rfl rfl ti_39 rfl rfl rfl rfl rfl ?_))))))))
    refine cs 1 rfl (AR.nil [10, 11, 12, 13] rfl (AW.sr (cs 4 rfl ?_)))
    obtain ⟨b1, h17, hf⟩ := bind1_inv hf
    refine AR.join1 4 62 66 true [] b1 rfl rfl (fun h16 => ?_) (fun h16 => ?_) ?_
    ·
     replace h17 := ite_T h16 h17
     refine AR.is 62 h16 rfl (AR.go rfl rfl rfl rfl rfl rfl (AO.load_box (i := 1) rfl rfl rfl ti_39 rfl rfl (AR.go rfl rfl rfl rfl rfl rfl (AO.load_box (i := 0) rfl rfl rfl ti_39 rfl rfl ?_))))
     replace h17 := (bind1_ret _).trans h17
     obtain ⟨x8, h18, h17⟩ := bind1_inv h17
     refine AR.go rfl rfl rfl rfl rfl rfl (AO.call rfl _ rfl rfl pf_12 (c_r08_Same _ _ h18 ?_))
     obtain rfl := Option.some.inj h17
     refine cs 1 rfl (AR.nil [66] rfl ?_)
     exact ⟨rfl, rfl, rfl, rfl⟩
    ·
     replace h17 := ite_F h16 h17
     refine AR.is 62 h16 rfl ?_
     obtain rfl := Option.some.inj h17
     refine cs 4 rfl (AR.nil [66] rfl ?_)
     exact ⟨rfl, rfl, rfl, rfl⟩
    refine cs 1 rfl ?_
    replace hf := (bind1_ret _).trans hf
    obtain ⟨b2, h20, hf⟩ := bind1_inv hf
    refine AR.join1 2 67 69 true [] b2 rfl rfl (fun h19 => ?_) (fun h19 => ?_) ?_
    ·
     replace h20 := ite_T h19 h20
     refine AR.is 67 h19 rfl ?_
     replace h20 := (bind1_ret _).trans h20
     obtain ⟨x9, h21, h20⟩ := bind1_inv h20
     refine AR.go rfl rfl rfl rfl rfl rfl (AO.call rfl _ rfl rfl pf_6 (c_l11_awake  h21 ?_))
     obtain rfl := Option.some.inj h20
     refine cs 1 rfl (AR.nil [69] rfl ?_)
     exact ⟨rfl, rfl, rfl, rfl⟩
    ·
     replace h20 := ite_F h19 h20
     refine AR.is 67 h19 rfl ?_
     obtain rfl := Option.some.inj h20
     refine cs 2 rfl (AR.nil [69] rfl ?_)
     exact ⟨rfl, rfl, rfl, rfl⟩
    refine cs 1 rfl (AR.nil [6] rfl (AW.ret ?_))
    cases hf
    exact ⟨rfl, _, ⟨_, _, rfl, rfl, rfl⟩, [], List.nil_sublist _, h⟩


end Go.Proofs.YtpgknnldbnmndaaGreatDoor
