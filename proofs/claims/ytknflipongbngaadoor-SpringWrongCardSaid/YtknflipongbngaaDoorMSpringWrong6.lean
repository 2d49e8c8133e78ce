/- SpringWrong: whatever the input, the law returns true and the input reads as it did. Its condition: the package's variables are as the program's text lays them (the card ties them). -/
import Derived.Test.YtknflipongbngaaDoorMSpringWrong5
import Derived.SevenTiedAt
/- The examples: the walk. -/
namespace Go.Proofs.YtknflipongbngaaDoor
open Go.X Go.S Go.RowKit
set_option maxHeartbeats 8000000 in
set_option maxRecDepth 100000 in
theorem alive_any (w : World) (hg : Gl w) :
    CallsR Tryd.prog 54 [] w (fun v _ => v = .bool true) := by
  refine CallsR.of_SX (n := 219) (rs := [.tmp 0]) Tryd.func54 rfl rfl rfl rfl ?_
  show SX _ _ _ ⟨[], [], []⟩
  refine SX.seq ?_
  refine SX.region ?_
  refine SXL.assign rfl ?_
  refine SXL.nil ?_
  refine thenQ.normal ?_
  refine SX.cutW (α := Nat) [0] rfl (fun b1 => [(2, .int .i64 0), (1, .pointer (some ⟨b1, 0, none⟩))]) (fun b1 => [(b1, .cells ⟨[.int .i64 26, .int .i64 33]⟩ 23 (0, 0))]) (fun b1 => []) (fun b1 => True) ?_ ?_
  · refine SX.region ?_
    refine SXL.callF (SpR fnt) fn_67 rfl (fun w hI => fountain_any [] none 0 (by simp) w (.nil _ _ _)) ?_; rintro _ _ ⟨ra28, rb28, oa28, ob28, rfl, rfl⟩
    refine SXL.call1 (.agg ⟨(Rd.mk 1 0 10 18 20).cells⟩) fn_69 rfl (fun w hI => mkRd_any ⟨1, 0, 10, 18, 20⟩ _) ?_
    refine SXL.call1 (.tuple ⟨[.agg ⟨[.int .i64 26, .int .i64 33]⟩, .int .i64 0]⟩) fn_30 rfl (fun w hI => (sread_any fnt ra28.addr rb28.addr ra28.cap rb28.cap ⟨1, 0, 10, 18, 20⟩ (by decide) (by decide) _ (hg.inv hI) (spAtOwn hI oa28 ob28 (i := 0) (j := 1) rfl rfl)).eqv (by rw [fx_read.1, fx_read.2.1, fx_read.2.2])) ?_
    refine SXL.move rfl ?_
    refine SXL.extract rfl rfl ?_
    refine SXL.extract rfl rfl ?_
    refine SXL.alloc zp_23 ?_; intro b2
    refine SXL.store 2 sz_23 rfl rfl rfl rfl rfl rfl ?_
    refine SXL.assign rfl ?_
    refine SXL.nil ?_
    refine thenQ.normal ?_
    refine ⟨(_), MeetsW.mkS [2] ⟨rfl, rfl, trivial⟩ ⟨rfl, trivial⟩ rfl, trivial⟩
  rintro b1 _
  refine SX.cutW (α := Nat) [0, 2] rfl (fun b1 => [(3, .bool true), (4, .int .i64 0), (1, .pointer (some ⟨b1, 0, none⟩))]) (fun b1 => [(b1, .cells ⟨[.int .i64 26, .int .i64 33]⟩ 23 (0, 0))]) (fun b1 => []) (fun b1 => True) ?_ ?_
  · refine SX.region ?_
    refine SXL.callF (SpR fnt) fn_67 rfl (fun w hI => fountain_any [] none 0 (by simp) w (.nil _ _ _)) ?_; rintro _ _ ⟨ra34, rb34, oa34, ob34, rfl, rfl⟩
    refine SXL.call1 (.tuple ⟨[.bool true, .int .i64 0]⟩) fn_18 rfl (fun w hI => (scan_any fnt ra34.addr rb34.addr ra34.cap rb34.cap (by decide) (by decide) _ (hg.inv hI) (spAtOwn hI oa34 ob34 (i := 1) (j := 2) rfl rfl)).eqv (by rw [decide_eq_true fx_can, if_pos fx_valid])) ?_
    refine SXL.move rfl ?_
    refine SXL.extract rfl rfl ?_
    refine SXL.extract rfl rfl ?_
    refine SXL.assign rfl ?_
    refine SXL.assign rfl ?_
    refine SXL.nil ?_
    refine thenQ.normal ?_
    refine ⟨(_), MeetsW.mkS [0] ⟨rfl, rfl, rfl, trivial⟩ ⟨rfl, rfl, trivial⟩ rfl, trivial⟩
  rintro b1 _
  refine SX.cutW (α := Nat × Sl) [0, 2, 3, 4] rfl (fun ⟨b1, q40⟩ => [(6, .int .i64 0), (1, .pointer (some ⟨b1, 0, none⟩)), (5, q40.val 3)]) (fun ⟨b1, q40⟩ => [(b1, .cells ⟨[.int .i64 26, .int .i64 33]⟩ 23 (0, 0)), q40.ent 3 (ints [3, 4, 5])]) (fun ⟨b1, q40⟩ => []) (fun ⟨b1, q40⟩ => q40.Ok 3 1 (ints [3, 4, 5])) ?_ ?_
  · refine SX.region ?_
    refine SXL.callF (SpR fnt) fn_67 rfl (fun w hI => fountain_any [] none 0 (by simp) w (.nil _ _ _)) ?_; rintro _ _ ⟨ra39, rb39, oa39, ob39, rfl, rfl⟩
    refine SXL.callF (IsR2 [3, 4, 5] 0) fn_20 rfl (fun w hI => (srains_any fnt ra39.addr rb39.addr ra39.cap rb39.cap (by decide) (by decide) w (hg.inv hI) (spAtOwn hI oa39 ob39 (i := 1) (j := 2) rfl rfl)).mono (fun v own h => by rw [fx_told.1, fx_told.2] at h; exact h)) ?_; rintro _ _ ⟨q40, u40, rfl, rfl⟩
    refine SXL.move rfl ?_
    refine SXL.extract rfl rfl ?_
    refine SXL.extract rfl rfl ?_
    refine SXL.assign rfl ?_
    refine SXL.assign rfl ?_
    refine SXL.nil ?_
    refine thenQ.normal ?_
    refine ⟨(_, _), MeetsW.mkS [0, 3] ⟨rfl, rfl, rfl, trivial⟩ ⟨rfl, rfl, rfl, rfl, trivial⟩ rfl, u40⟩
  rintro ⟨b1, q40⟩ u40
  refine SX.cutW (α := Nat × Nat × Sl) [0, 2, 3, 4, 6] rfl (fun ⟨b1, b7, q40⟩ => [(8, .int .i64 0), (1, .pointer (some ⟨b1, 0, none⟩)), (7, .pointer (some ⟨b7, 0, none⟩)), (5, q40.val 3)]) (fun ⟨b1, b7, q40⟩ => [(b1, .cells ⟨[.int .i64 26, .int .i64 33]⟩ 23 (0, 0)), (b7, .cells ⟨[.int .i64 18, .int .i64 33]⟩ 23 (0, 0)), q40.ent 3 (ints [3, 4, 5])]) (fun ⟨b1, b7, q40⟩ => []) (fun ⟨b1, b7, q40⟩ => q40.Ok 3 1 (ints [3, 4, 5])) ?_ ?_
  · refine SX.region ?_
    refine SXL.callF (SpR fnt) fn_67 rfl (fun w hI => fountain_any [] none 0 (by simp) w (.nil _ _ _)) ?_; rintro _ _ ⟨ra44, rb44, oa44, ob44, rfl, rfl⟩
    refine SXL.call1 (.tuple ⟨[.agg ⟨[.int .i64 18, .int .i64 33]⟩, .int .i64 0]⟩) fn_22 rfl (fun w hI => (sgives_any fnt ra44.addr rb44.addr ra44.cap rb44.cap 1 (by decide) (by decide) _ (hg.inv hI) (spAtOwn hI oa44 ob44 (i := 2) (j := 3) rfl rfl)).eqv (by rw [fx_gives.1, fx_gives.2.1, fx_gives.2.2])) ?_
    refine SXL.move rfl ?_
    refine SXL.extract rfl rfl ?_
    refine SXL.extract rfl rfl ?_
    refine SXL.alloc zp_23 ?_; intro b4
    refine SXL.store 4 sz_23 rfl rfl rfl rfl rfl rfl ?_
    refine SXL.assign rfl ?_
    refine SXL.nil ?_
    refine thenQ.normal ?_
    refine ⟨(_, _, _), MeetsW.mkS [0, 4, 1] ⟨rfl, rfl, rfl, rfl, trivial⟩ ⟨rfl, rfl, rfl, rfl, rfl, trivial⟩ rfl, u40⟩
  rintro ⟨b1, b7, q40⟩ u40
  refine SX.cutW (α := Nat × Nat × Sl) [0, 2, 3, 4, 6, 8] rfl (fun ⟨b1, b7, q40⟩ => [(9, .int .u8 2), (10, .int .i64 0), (1, .pointer (some ⟨b1, 0, none⟩)), (7, .pointer (some ⟨b7, 0, none⟩)), (5, q40.val 3)]) (fun ⟨b1, b7, q40⟩ => [(b1, .cells ⟨[.int .i64 26, .int .i64 33]⟩ 23 (0, 0)), (b7, .cells ⟨[.int .i64 18, .int .i64 33]⟩ 23 (0, 0)), q40.ent 3 (ints [3, 4, 5])]) (fun ⟨b1, b7, q40⟩ => []) (fun ⟨b1, b7, q40⟩ => q40.Ok 3 1 (ints [3, 4, 5])) ?_ ?_
  · refine SX.region ?_
    refine SXL.callF (SpR fnt) fn_67 rfl (fun w hI => fountain_any [] none 0 (by simp) w (.nil _ _ _)) ?_; rintro _ _ ⟨ra49, rb49, oa49, ob49, rfl, rfl⟩
    refine SXL.call1 (.tuple ⟨[.int .u8 2, .int .i64 0]⟩) fn_24 rfl (fun w hI => (sknown_any fnt ra49.addr rb49.addr ra49.cap rb49.cap 2 10 (by decide) (by decide) _ (hg.inv hI) (spAtOwn hI oa49 ob49 (i := 3) (j := 4) rfl rfl)).eqv (by rw [fx_known.1, fx_known.2])) ?_
    refine SXL.move rfl ?_
    refine SXL.extract rfl rfl ?_
    refine SXL.extract rfl rfl ?_
    refine SXL.assign rfl ?_
    refine SXL.assign rfl ?_
    refine SXL.nil ?_
    refine thenQ.normal ?_
    refine ⟨(_, _, _), MeetsW.mkS [0, 1, 2] ⟨rfl, rfl, rfl, rfl, rfl, trivial⟩ ⟨rfl, rfl, rfl, rfl, rfl, rfl, trivial⟩ rfl, u40⟩
  rintro ⟨b1, b7, q40⟩ u40
  refine SX.cutW (α := Nat × Nat × Sl) [0, 2, 3, 4, 6, 8, 9, 10] rfl (fun ⟨b1, b7, q40⟩ => [(11, .int .i64 1), (12, .int .i64 0), (1, .pointer (some ⟨b1, 0, none⟩)), (7, .pointer (some ⟨b7, 0, none⟩)), (5, q40.val 3)]) (fun ⟨b1, b7, q40⟩ => [(b1, .cells ⟨[.int .i64 26, .int .i64 33]⟩ 23 (0, 0)), (b7, .cells ⟨[.int .i64 18, .int .i64 33]⟩ 23 (0, 0)), q40.ent 3 (ints [3, 4, 5])]) (fun ⟨b1, b7, q40⟩ => []) (fun ⟨b1, b7, q40⟩ => q40.Ok 3 1 (ints [3, 4, 5])) ?_ ?_
  · refine SX.region ?_
    refine SXL.callF (SpR fnt) fn_67 rfl (fun w hI => fountain_any [] none 0 (by simp) w (.nil _ _ _)) ?_; rintro _ _ ⟨ra54, rb54, oa54, ob54, rfl, rfl⟩
    refine SXL.call1 (.tuple ⟨[.int .i64 1, .int .i64 0]⟩) fn_42 rfl (fun w hI => (sfails_any fnt ra54.addr rb54.addr ra54.cap rb54.cap 20 (by decide) (by decide) _ (hg.inv hI) (spAtOwn hI oa54 ob54 (i := 3) (j := 4) rfl rfl)).eqv (by rw [fx_fails.1, fx_fails.2])) ?_
    refine SXL.move rfl ?_
    refine SXL.extract rfl rfl ?_
    refine SXL.extract rfl rfl ?_
    refine SXL.assign rfl ?_
    refine SXL.assign rfl ?_
    refine SXL.nil ?_
    refine thenQ.normal ?_
    refine ⟨(_, _, _), MeetsW.mkS [0, 1, 2] ⟨rfl, rfl, rfl, rfl, rfl, trivial⟩ ⟨rfl, rfl, rfl, rfl, rfl, rfl, rfl, rfl, trivial⟩ rfl, u40⟩
  rintro ⟨b1, b7, q40⟩ u40
  refine SX.cutW (α := Nat × Nat × Sl) [0, 2, 3, 4, 6, 8, 9, 10, 11, 12] rfl (fun ⟨b1, b7, q40⟩ => [(13, .int .i64 2), (14, .int .i64 0), (1, .pointer (some ⟨b1, 0, none⟩)), (7, .pointer (some ⟨b7, 0, none⟩)), (5, q40.val 3)]) (fun ⟨b1, b7, q40⟩ => [(b1, .cells ⟨[.int .i64 26, .int .i64 33]⟩ 23 (0, 0)), (b7, .cells ⟨[.int .i64 18, .int .i64 33]⟩ 23 (0, 0)), q40.ent 3 (ints [3, 4, 5])]) (fun ⟨b1, b7, q40⟩ => []) (fun ⟨b1, b7, q40⟩ => q40.Ok 3 1 (ints [3, 4, 5])) ?_ ?_
  · refine SX.region ?_
    refine SXL.callF (SpR fnt) fn_67 rfl (fun w hI => fountain_any [] none 0 (by simp) w (.nil _ _ _)) ?_; rintro _ _ ⟨ra59, rb59, oa59, ob59, rfl, rfl⟩
    refine SXL.call1 (.tuple ⟨[.int .i64 2, .int .i64 0]⟩) fn_44 rfl (fun w hI => (ssurely_any fnt ra59.addr rb59.addr ra59.cap rb59.cap 26 (by decide) (by decide) _ (hg.inv hI) (spAtOwn hI oa59 ob59 (i := 3) (j := 4) rfl rfl)).eqv (by rw [fx_surely.1, fx_surely.2])) ?_
    refine SXL.move rfl ?_
    refine SXL.extract rfl rfl ?_
    refine SXL.extract rfl rfl ?_
    refine SXL.assign rfl ?_
    refine SXL.assign rfl ?_
    refine SXL.nil ?_
    refine thenQ.normal ?_
    refine ⟨(_, _, _), MeetsW.mkS [0, 1, 2] ⟨rfl, rfl, rfl, rfl, rfl, trivial⟩ ⟨rfl, rfl, rfl, rfl, rfl, rfl, rfl, rfl, rfl, rfl, trivial⟩ rfl, u40⟩
  rintro ⟨b1, b7, q40⟩ u40
  refine SX.cutW (α := Nat × Nat × Sl × Sl) [0, 2, 3, 4, 6, 8, 9, 10, 11, 12, 13, 14] rfl (fun ⟨b1, b7, q40, q65⟩ => [(15, .int .i64 3), (17, .int .i64 0), (1, .pointer (some ⟨b1, 0, none⟩)), (7, .pointer (some ⟨b7, 0, none⟩)), (5, q40.val 3), (16, q65.val 4)]) (fun ⟨b1, b7, q40, q65⟩ => [(b1, .cells ⟨[.int .i64 26, .int .i64 33]⟩ 23 (0, 0)), (b7, .cells ⟨[.int .i64 18, .int .i64 33]⟩ 23 (0, 0)), q40.ent 3 (ints [3, 4, 5]), q65.ent 3 (ints [26, 18, 10, 2])]) (fun ⟨b1, b7, q40, q65⟩ => []) (fun ⟨b1, b7, q40, q65⟩ => q40.Ok 3 1 (ints [3, 4, 5]) ∧ q65.Ok 4 1 (ints [26, 18, 10, 2])) ?_ ?_
  · refine SX.region ?_
    refine SXL.callF (SpR fnt) fn_67 rfl (fun w hI => fountain_any [] none 0 (by simp) w (.nil _ _ _)) ?_; rintro _ _ ⟨ra64, rb64, oa64, ob64, rfl, rfl⟩
    refine SXL.callF (IsR3 3 [26, 18, 10, 2] 0) fn_46 rfl (fun w hI => (spoor_any fnt ra64.addr rb64.addr ra64.cap rb64.cap (by decide) (by decide) w (hg.inv hI) (spAtOwn hI oa64 ob64 (i := 3) (j := 4) rfl rfl)).mono (fun v own h => by rw [fx_poor.1, fx_poor.2, fx_told.2] at h; exact h)) ?_; rintro _ _ ⟨q65, u65, rfl, rfl⟩
    refine SXL.move rfl ?_
    refine SXL.extract rfl rfl ?_
    refine SXL.extract rfl rfl ?_
    refine SXL.extract rfl rfl ?_
    refine SXL.assign rfl ?_
    refine SXL.assign rfl ?_
    refine SXL.assign rfl ?_
    refine SXL.nil ?_
    refine thenQ.normal ?_
    refine ⟨(_, _, _, _), MeetsW.mkS [0, 1, 2, 5] ⟨rfl, rfl, rfl, rfl, rfl, rfl, trivial⟩ ⟨rfl, rfl, rfl, rfl, rfl, rfl, rfl, rfl, rfl, rfl, rfl, rfl, trivial⟩ rfl, ⟨u40, u65⟩⟩
  rintro ⟨b1, b7, q40, q65⟩ ⟨u40, u65⟩
  refine SX.cutW (α := Nat × Nat × Sl × Sl × Sl) [0, 2, 3, 4, 6, 8, 9, 10, 11, 12, 13, 14, 15, 17] rfl (fun ⟨b1, b7, q40, q65, q71⟩ => [(18, .int .i64 4), (20, .int .i64 0), (1, .pointer (some ⟨b1, 0, none⟩)), (7, .pointer (some ⟨b7, 0, none⟩)), (5, q40.val 3), (16, q65.val 4), (19, q71.val 4)]) (fun ⟨b1, b7, q40, q65, q71⟩ => [(b1, .cells ⟨[.int .i64 26, .int .i64 33]⟩ 23 (0, 0)), (b7, .cells ⟨[.int .i64 18, .int .i64 33]⟩ 23 (0, 0)), q40.ent 3 (ints [3, 4, 5]), q65.ent 3 (ints [26, 18, 10, 2]), q71.ent 3 (ints [33, 33, 25, 25])]) (fun ⟨b1, b7, q40, q65, q71⟩ => []) (fun ⟨b1, b7, q40, q65, q71⟩ => q40.Ok 3 1 (ints [3, 4, 5]) ∧ q65.Ok 4 1 (ints [26, 18, 10, 2]) ∧ q71.Ok 4 1 (ints [33, 33, 25, 25])) ?_ ?_
  · refine SX.region ?_
    refine SXL.callF (SpR fnt) fn_67 rfl (fun w hI => fountain_any [] none 0 (by simp) w (.nil _ _ _)) ?_; rintro _ _ ⟨ra70, rb70, oa70, ob70, rfl, rfl⟩
    refine SXL.callF (IsR3 4 [33, 33, 25, 25] 0) fn_48 rfl (fun w hI => (srich_any fnt ra70.addr rb70.addr ra70.cap rb70.cap (by decide) (by decide) w (hg.inv hI) (spAtOwn hI oa70 ob70 (i := 4) (j := 5) rfl rfl)).mono (fun v own h => by rw [fx_rich.1, fx_rich.2, fx_told.2] at h; exact h)) ?_; rintro _ _ ⟨q71, u71, rfl, rfl⟩
    refine SXL.move rfl ?_
    refine SXL.extract rfl rfl ?_
    refine SXL.extract rfl rfl ?_
    refine SXL.extract rfl rfl ?_
    refine SXL.assign rfl ?_
    refine SXL.assign rfl ?_
    refine SXL.assign rfl ?_
    refine SXL.nil ?_
    refine thenQ.normal ?_
    refine ⟨(_, _, _, _, _), MeetsW.mkS [0, 1, 2, 3, 6] ⟨rfl, rfl, rfl, rfl, rfl, rfl, rfl, trivial⟩ ⟨rfl, rfl, rfl, rfl, rfl, rfl, rfl, rfl, rfl, rfl, rfl, rfl, rfl, rfl, trivial⟩ rfl, ⟨u40, u65, u71⟩⟩
  rintro ⟨b1, b7, q40, q65, q71⟩ ⟨u40, u65, u71⟩
  refine SX.cutW (α := Unit) [0, 2, 4, 6, 8, 10] rfl (fun _ => []) (fun _ => []) (fun _ => []) (fun _ => True) ?_ ?_
  · refine SX.seq ?_
    refine SX.draw 77 (by kernel_rfl) (by kernel_rfl) {} ?_
    refine SXA.take 0 18 rfl (by kernel_rfl) rfl ?_
    refine SXL.move rfl ?_
    refine SXL.neqF rfl rfl ?_
    refine SXL.move rfl ?_
    refine SXL.loadNo 0 sh_23 rfl rfl rfl ?_
    refine SXL.call1 (.agg ⟨[.int .i64 26, .int .i64 33]⟩) fn_63 rfl (fun w hI => mkSpan_any _ _ _) ?_
    refine SXL.neqVF (xs := [26, 33]) eq_23 eg_23 sh_23 rfl rfl rfl ?_
    refine SXL.pickAt (EnvSub.refl _) rfl rfl ?_ rfl rfl
    refine SXL.move rfl ?_
    refine SXL.move rfl ?_
    refine SXL.neqF rfl rfl ?_
    refine SXL.pickAt (EnvSub.refl _) rfl rfl ?_ rfl rfl
    refine SXL.move rfl ?_
    refine SXL.move rfl ?_
    refine SXL.notF rfl ?_
    refine SXL.pickAt (EnvSub.refl _) rfl rfl ?_ rfl rfl
    refine SXL.move rfl ?_
    refine SXL.move rfl ?_
    refine SXL.move rfl ?_
    refine SXL.nil ⟨rfl, rfl, rfl, ?_⟩
    refine SXA.all [18] (by kernel_rfl) rfl ⟨⟨?_, rfl⟩, trivial⟩
    refine (show SXL _ _ [_] _ _ from ?_)
    refine SXL.buildSlice et_35 zp_3 rfl rfl rfl rfl ?_; intro b5
    refine SXL.nil (stepQ.mk _ rfl rfl ?_)
    refine SXA.take 19 43 rfl (by kernel_rfl) rfl ?_
    refine SXL.call1 (.bool true) fn_108 rfl (fun w hI => (is_any [3, 4, 5] [3, 4, 5] 0 q40.addr (some ⟨b5, 0, none⟩) q40.cap 3 (by decide) _ (slOnes hI u40 (i := 2) rfl) (ownOnes hI (i := 5) [3, 4, 5] rfl)).eqv (congrArg Value.bool (decide_eq_true ⟨rfl, rfl⟩))) ?_
    refine SXL.notF rfl ?_
    refine SXL.pickAt (EnvSub.refl _) rfl rfl ?_ rfl rfl
    refine SXL.move rfl ?_
    refine SXL.move rfl ?_
    refine SXL.neqF rfl rfl ?_
    refine SXL.pickAt (EnvSub.refl _) rfl rfl ?_ rfl rfl
    refine SXL.move rfl ?_
    refine SXL.loadNo 1 sh_23 rfl rfl rfl ?_
    refine SXL.call1 (.agg ⟨[.int .i64 18, .int .i64 33]⟩) fn_63 rfl (fun w hI => mkSpan_any _ _ _) ?_
    refine SXL.neqVF (xs := [18, 33]) eq_23 eg_23 sh_23 rfl rfl rfl ?_
    refine SXL.pickAt (EnvSub.refl _) rfl rfl ?_ rfl rfl
    refine SXL.move rfl ?_
    refine SXL.move rfl ?_
    refine SXL.neqF rfl rfl ?_
    refine SXL.pickAt (EnvSub.refl _) rfl rfl ?_ rfl rfl
    refine SXL.move rfl ?_
    refine SXL.move rfl ?_
    refine SXL.neqF rfl rfl ?_
    refine SXL.pickAt (EnvSub.refl _) rfl rfl ?_ rfl rfl
    refine SXL.move rfl ?_
    refine SXL.move rfl ?_
    refine SXL.neqF rfl rfl ?_
    refine SXL.pickAt (EnvSub.refl _) rfl rfl ?_ rfl rfl
    refine SXL.move rfl ?_
    refine SXL.move rfl ?_
    refine SXL.neqF rfl rfl ?_
    refine SXL.pickAt (EnvSub.refl _) rfl rfl ?_ rfl rfl
    refine SXL.move rfl ?_
    refine SXL.move rfl ?_
    refine SXL.neqF rfl rfl ?_
    refine SXL.pickAt (EnvSub.refl _) rfl rfl ?_ rfl rfl
    refine SXL.move rfl ?_
    refine SXL.move rfl ?_
    refine SXL.neqF rfl rfl ?_
    refine SXL.pickAt (EnvSub.refl _) rfl rfl ?_ rfl rfl
    refine SXL.move rfl ?_
    refine SXL.move rfl ?_
    refine SXL.neqF rfl rfl ?_
    refine SXL.pickAt (EnvSub.refl _) rfl rfl ?_ rfl rfl
    refine SXL.move rfl ?_
    refine SXL.move rfl ?_
    refine SXL.move rfl ?_
    refine SXL.nil ⟨rfl, rfl, rfl, ?_⟩
    refine SXA.all [62] (by kernel_rfl) rfl ⟨⟨?_, rfl⟩, trivial⟩
    refine (show SXL _ _ [_] _ _ from ?_)
    refine SXL.buildSlice et_35 zp_3 rfl rfl rfl rfl ?_; intro b6
    refine SXL.nil (stepQ.mk _ rfl rfl ?_)
    refine SXA.take 63 10 rfl (by kernel_rfl) rfl ?_
    refine SXL.call1 (.bool true) fn_108 rfl (fun w hI => (is_any [26, 18, 10, 2] [26, 18, 10, 2] 0 q65.addr (some ⟨b6, 0, none⟩) q65.cap 4 (by decide) _ (slOnes hI u65 (i := 3) rfl) (ownOnes hI (i := 6) [26, 18, 10, 2] rfl)).eqv (congrArg Value.bool (decide_eq_true ⟨rfl, rfl⟩))) ?_
    refine SXL.notF rfl ?_
    refine SXL.pickAt (EnvSub.refl _) rfl rfl ?_ rfl rfl
    refine SXL.move rfl ?_
    refine SXL.move rfl ?_
    refine SXL.neqF rfl rfl ?_
    refine SXL.pickAt (EnvSub.refl _) rfl rfl ?_ rfl rfl
    refine SXL.move rfl ?_
    refine SXL.move rfl ?_
    refine SXL.move rfl ?_
    refine SXL.nil ⟨rfl, rfl, rfl, ?_⟩
    refine SXA.all [73] (by kernel_rfl) rfl ⟨⟨?_, rfl⟩, trivial⟩
    refine (show SXL _ _ [_] _ _ from ?_)
    refine SXL.buildSlice et_35 zp_3 rfl rfl rfl rfl ?_; intro b7
    refine SXL.nil (stepQ.mk _ rfl rfl ?_)
    refine SXA.take 74 3 rfl (by kernel_rfl) rfl ?_
    refine SXL.call1 (.bool true) fn_108 rfl (fun w hI => (is_any [33, 33, 25, 25] [33, 33, 25, 25] 0 q71.addr (some ⟨b7, 0, none⟩) q71.cap 4 (by decide) _ (slOnes hI u71 (i := 4) rfl) (ownOnes hI (i := 7) [33, 33, 25, 25] rfl)).eqv (congrArg Value.bool (decide_eq_true ⟨rfl, rfl⟩))) ?_
    refine SXL.notF rfl ?_
    refine SXL.pickAt (EnvSub.refl _) rfl rfl ?_ rfl rfl
    refine SXL.nil ⟨rfl, rfl, rfl, ?_⟩
    refine SXA.done (by kernel_rfl) ?_
    refine SXL.nil ?_
    refine thenQ.normal ?_
    refine SX.condP (p := False) rfl (fun c151 => ?_) (fun c151 => ?_)
    · exfalso; exact c151
    refine SX.skip ?_
    refine thenQ.normal ?_
    refine ⟨(), MeetsW.mkS [] trivial ⟨rfl, rfl, rfl, rfl, rfl, rfl, trivial⟩ rfl, trivial⟩
  rintro _ _
  refine SX.cutW (α := Nat) [0, 4, 6, 8, 10] rfl (fun b21 => [(2, .int .i64 0), (21, .pointer (some ⟨b21, 0, none⟩))]) (fun b21 => [(b21, .cells ⟨[.int .i64 144, .int .i64 1800]⟩ 23 (0, 0))]) (fun b21 => []) (fun b21 => True) ?_ ?_
  · refine SX.region ?_
    refine SXL.callF (SpR fnt) fn_67 rfl (fun w hI => fountain_any [] none 0 (by simp) w (.nil _ _ _)) ?_; rintro _ _ ⟨ra153, rb153, oa153, ob153, rfl, rfl⟩
    refine SXL.call1 (.tuple ⟨[.agg ⟨[.int .i64 144, .int .i64 1800]⟩, .int .i64 0]⟩) fn_50 rfl (fun w hI => (sfill_any fnt ra153.addr rb153.addr ra153.cap rb153.cap 3 1 (by decide) (by decide) _ (hg.inv hI) (spAtOwn hI oa153 ob153 (i := 0) (j := 1) rfl rfl)).eqv (by rw [fx_fill.1, fx_fill.2.1, fx_fill.2.2])) ?_
    refine SXL.move rfl ?_
    refine SXL.extract rfl rfl ?_
    refine SXL.extract rfl rfl ?_
    refine SXL.alloc zp_23 ?_; intro b2
    refine SXL.store 2 sz_23 rfl rfl rfl rfl rfl rfl ?_
    refine SXL.assign rfl ?_
    refine SXL.nil ?_
    refine thenQ.normal ?_
    refine ⟨(_), MeetsW.mkS [2] ⟨rfl, rfl, trivial⟩ ⟨rfl, rfl, rfl, rfl, rfl, trivial⟩ rfl, trivial⟩
  rintro b21 _
  refine SX.cutW (α := Nat) [0, 2, 6, 8, 10] rfl (fun b21 => [(22, .int .i64 2), (23, .int .i64 23), (4, .int .i64 0), (21, .pointer (some ⟨b21, 0, none⟩))]) (fun b21 => [(b21, .cells ⟨[.int .i64 144, .int .i64 1800]⟩ 23 (0, 0))]) (fun b21 => []) (fun b21 => True) ?_ ?_
  · refine SX.region ?_
    refine SXL.callF (SpR fnt) fn_67 rfl (fun w hI => fountain_any [] none 0 (by simp) w (.nil _ _ _)) ?_; rintro _ _ ⟨ra158, rb158, oa158, ob158, rfl, rfl⟩
    refine SXL.call1 (.tuple ⟨[.int .i64 2, .int .i64 23, .int .i64 0]⟩) fn_52 rfl (fun w hI => (slook_any fnt ra158.addr rb158.addr ra158.cap rb158.cap (by decide) (by decide) _ (hg.inv hI) (spAtOwn hI oa158 ob158 (i := 1) (j := 2) rfl rfl)).eqv (by rw [fx_look.1, fx_look.2, fx_told.2])) ?_
    refine SXL.move rfl ?_
    refine SXL.extract rfl rfl ?_
    refine SXL.extract rfl rfl ?_
    refine SXL.extract rfl rfl ?_
    refine SXL.assign rfl ?_
    refine SXL.assign rfl ?_
    refine SXL.assign rfl ?_
    refine SXL.nil ?_
    refine thenQ.normal ?_
    refine ⟨(_), MeetsW.mkS [0] ⟨rfl, rfl, rfl, rfl, trivial⟩ ⟨rfl, rfl, rfl, rfl, rfl, trivial⟩ rfl, trivial⟩
  rintro b21 _
  refine SX.cutW (α := Nat × Sl) [0, 2, 4, 8, 10, 22, 23] rfl (fun ⟨b21, q165⟩ => [(6, .int .i64 0), (21, .pointer (some ⟨b21, 0, none⟩)), (24, q165.val 1)]) (fun ⟨b21, q165⟩ => [(b21, .cells ⟨[.int .i64 144, .int .i64 1800]⟩ 23 (0, 0)), q165.ent 3 (ints [1])]) (fun ⟨b21, q165⟩ => []) (fun ⟨b21, q165⟩ => q165.Ok 1 1 (ints [1])) ?_ ?_
  · refine SX.region ?_
    refine SXL.callF (SpR fnt) fn_67 rfl (fun w hI => fountain_any [] none 0 (by simp) w (.nil _ _ _)) ?_; rintro _ _ ⟨ra164, rb164, oa164, ob164, rfl, rfl⟩
    refine SXL.callF (IsR2 [1] 0) fn_32 rfl (fun w hI => (srests_any fnt ra164.addr rb164.addr ra164.cap rb164.cap 0 (by decide) (by decide) w (hg.inv hI) (spAtOwn hI oa164 ob164 (i := 1) (j := 2) rfl rfl)).mono (fun v own h => by rw [fx_rests, fx_told.2] at h; exact h)) ?_; rintro _ _ ⟨q165, u165, rfl, rfl⟩
    refine SXL.move rfl ?_
    refine SXL.extract rfl rfl ?_
    refine SXL.extract rfl rfl ?_
    refine SXL.assign rfl ?_
    refine SXL.assign rfl ?_
    refine SXL.nil ?_
    refine thenQ.normal ?_
    refine ⟨(_, _), MeetsW.mkS [0, 3] ⟨rfl, rfl, rfl, trivial⟩ ⟨rfl, rfl, rfl, rfl, rfl, rfl, rfl, trivial⟩ rfl, u165⟩
  rintro ⟨b21, q165⟩ u165
  refine SX.cutW (α := Nat × Sl × Sl) [0, 2, 4, 6, 10, 22, 23] rfl (fun ⟨b21, q165, q170⟩ => [(8, .int .i64 0), (21, .pointer (some ⟨b21, 0, none⟩)), (24, q165.val 1), (25, q170.val 1)]) (fun ⟨b21, q165, q170⟩ => [(b21, .cells ⟨[.int .i64 144, .int .i64 1800]⟩ 23 (0, 0)), q165.ent 3 (ints [1]), q170.ent 3 (ints [3])]) (fun ⟨b21, q165, q170⟩ => []) (fun ⟨b21, q165, q170⟩ => q165.Ok 1 1 (ints [1]) ∧ q170.Ok 1 1 (ints [3])) ?_ ?_
  · refine SX.region ?_
    refine SXL.callF (SpR oddS) fn_68 rfl (fun w hI => odd_any w) ?_; rintro _ _ ⟨ra169, rb169, oa169, ob169, rfl, rfl⟩
    refine SXL.callF (IsR2 [3] 0) fn_34 rfl (fun w hI => (swrong_any oddS ra169.addr rb169.addr ra169.cap rb169.cap (by decide) (by decide) w (hg.inv hI) (spAtOwn hI oa169 ob169 (i := 2) (j := 3) rfl rfl)).mono (fun v own h => by rw [fx_wrong.1, fx_wrong.2] at h; exact h)) ?_; rintro _ _ ⟨q170, u170, rfl, rfl⟩
    refine SXL.move rfl ?_
    refine SXL.extract rfl rfl ?_
    refine SXL.extract rfl rfl ?_
    refine SXL.assign rfl ?_
    refine SXL.assign rfl ?_
    refine SXL.nil ?_
    refine thenQ.normal ?_
    refine ⟨(_, _, _), MeetsW.mkS [0, 1, 4] ⟨rfl, rfl, rfl, rfl, trivial⟩ ⟨rfl, rfl, rfl, rfl, rfl, rfl, rfl, trivial⟩ rfl, ⟨u165, u170⟩⟩
  rintro ⟨b21, q165, q170⟩ ⟨u165, u170⟩
  refine SX.cutW (α := Nat × Sl × Sl × Sl × Sl × Nat) [0, 2, 4, 6, 8, 22, 23] rfl (fun ⟨b21, q165, q170, ra176, rb176, b26⟩ => [(10, .int .i64 0), (21, .pointer (some ⟨b21, 0, none⟩)), (24, q165.val 1), (25, q170.val 1), (26, .pointer (some ⟨b26, 0, none⟩))]) (fun ⟨b21, q165, q170, ra176, rb176, b26⟩ => [(b21, .cells ⟨[.int .i64 144, .int .i64 1800]⟩ 23 (0, 0)), q165.ent 3 (ints [1]), q170.ent 3 (ints [3]), ra176.ent 61 (bookC fnt), rb176.ent 54 (readsC fnt), (b26, .cells ⟨[.int .i64 fnt.weeks, .int .i64 fnt.most, .int .i64 fnt.fall, .int .i64 fnt.a0, .int .i64 fnt.a1, .int .i64 fnt.w0, .int .i64 fnt.w1, ra176.val fnt.book.length, rb176.val fnt.reads.length]⟩ 27 (0, 0))]) (fun ⟨b21, q165, q170, ra176, rb176, b26⟩ => []) (fun ⟨b21, q165, q170, ra176, rb176, b26⟩ => q165.Ok 1 1 (ints [1]) ∧ q170.Ok 1 1 (ints [3]) ∧ ra176.Ok fnt.book.length 5 (bookC fnt) ∧ rb176.Ok fnt.reads.length 5 (readsC fnt)) ?_ ?_
  · refine SX.region ?_
    refine SXL.callF (SpR oddS) fn_68 rfl (fun w hI => odd_any w) ?_; rintro _ _ ⟨ra174, rb174, oa174, ob174, rfl, rfl⟩
    refine SXL.buildSlice et_35 zp_3 rfl rfl rfl rfl ?_; intro b5
    refine SXL.callF (SpE fnt 0) fn_40 rfl (fun w hI => (sstrike_any oddS ra174.addr rb174.addr ra174.cap rb174.cap [3] (some ⟨b5, 0, none⟩) 1 (by decide) (by decide) (by decide) w (hg.inv hI) (spAtOwn hI oa174 ob174 (i := 3) (j := 4) rfl rfl) (ownOnes hI (i := 5) [3] rfl)).mono (fun v own h => by rw [fx_strike.1, fx_strike.2] at h; exact h)) ?_; rintro _ _ ⟨ra176, rb176, oa176, ob176, rfl, rfl⟩
    refine SXL.move rfl ?_
    refine SXL.extract rfl rfl ?_
    refine SXL.extract rfl rfl ?_
    refine SXL.alloc zp_27 ?_; intro b8
    refine SXL.store 8 sz_27 rfl rfl rfl rfl rfl rfl ?_
    refine SXL.assign rfl ?_
    refine SXL.nil ?_
    refine thenQ.normal ?_
    refine ⟨(_, _, _, _, _, _), MeetsW.mkS [0, 1, 2, 6, 7, 8] ⟨rfl, rfl, rfl, rfl, rfl, trivial⟩ ⟨rfl, rfl, rfl, rfl, rfl, rfl, rfl, trivial⟩ rfl, ⟨u165, u170, oa176, ob176⟩⟩
  rintro ⟨b21, q165, q170, ra176, rb176, b26⟩ ⟨u165, u170, oa176, ob176⟩
  refine SX.seq ?_
  refine SX.draw 41 (by kernel_rfl) (by kernel_rfl) {} ?_
  refine SXA.take 0 22 rfl (by kernel_rfl) rfl ?_
  refine SXL.move rfl ?_
  refine SXL.eqlT rfl rfl ?_
  refine SXL.move rfl ?_
  refine SXL.loadNo 0 sh_23 rfl rfl rfl ?_
  refine SXL.call1 (.agg ⟨[.int .i64 144, .int .i64 1800]⟩) fn_63 rfl (fun w hI => mkSpan_any _ _ _) ?_
  refine SXL.eqlVT (xs := [144, 1800]) eq_23 eg_23 sh_23 rfl rfl rfl ?_
  refine SXL.pickAt (EnvSub.refl _) rfl rfl ?_ rfl rfl
  refine SXL.move rfl ?_
  refine SXL.move rfl ?_
  refine SXL.eqlT rfl rfl ?_
  refine SXL.pickAt (EnvSub.refl _) rfl rfl ?_ rfl rfl
  refine SXL.move rfl ?_
  refine SXL.move rfl ?_
  refine SXL.eqlT rfl rfl ?_
  refine SXL.pickAt (EnvSub.refl _) rfl rfl ?_ rfl rfl
  refine SXL.move rfl ?_
  refine SXL.move rfl ?_
  refine SXL.eqlT rfl rfl ?_
  refine SXL.pickAt (EnvSub.refl _) rfl rfl ?_ rfl rfl
  refine SXL.move rfl ?_
  refine SXL.move rfl ?_
  refine SXL.move rfl ?_
  refine SXL.nil ⟨rfl, rfl, rfl, ?_⟩
  refine SXA.all [22] (by kernel_rfl) rfl ⟨⟨?_, rfl⟩, trivial⟩
  refine (show SXL _ _ [_] _ _ from ?_)
  refine SXL.buildSlice et_35 zp_3 rfl rfl rfl rfl ?_; intro b6
  refine SXL.nil (stepQ.mk _ rfl rfl ?_)
  refine SXA.take 23 5 rfl (by kernel_rfl) rfl ?_
  refine SXL.call1 (.bool true) fn_108 rfl (fun w hI => (is_any [1] [1] 0 q165.addr (some ⟨b6, 0, none⟩) q165.cap 1 (by decide) _ (slOnes hI u165 (i := 1) rfl) (ownOnes hI (i := 6) [1] rfl)).eqv (congrArg Value.bool (decide_eq_true ⟨rfl, rfl⟩))) ?_
  refine SXL.pickAt (EnvSub.refl _) rfl rfl ?_ rfl rfl
  refine SXL.move rfl ?_
  refine SXL.move rfl ?_
  refine SXL.move rfl ?_
  refine SXL.nil ⟨rfl, rfl, rfl, ?_⟩
  refine SXA.all [28] (by kernel_rfl) rfl ⟨⟨?_, rfl⟩, trivial⟩
  refine (show SXL _ _ [_] _ _ from ?_)
  refine SXL.buildSlice et_35 zp_3 rfl rfl rfl rfl ?_; intro b7
  refine SXL.nil (stepQ.mk _ rfl rfl ?_)
  refine SXA.take 29 8 rfl (by kernel_rfl) rfl ?_
  refine SXL.call1 (.bool true) fn_108 rfl (fun w hI => (is_any [3] [3] 0 q170.addr (some ⟨b7, 0, none⟩) q170.cap 1 (by decide) _ (slOnes hI u170 (i := 2) rfl) (ownOnes hI (i := 7) [3] rfl)).eqv (congrArg Value.bool (decide_eq_true ⟨rfl, rfl⟩))) ?_
  refine SXL.pickAt (EnvSub.refl _) rfl rfl ?_ rfl rfl
  refine SXL.move rfl ?_
  refine SXL.move rfl ?_
  refine SXL.eqlT rfl rfl ?_
  refine SXL.pickAt (EnvSub.refl _) rfl rfl ?_ rfl rfl
  refine SXL.move rfl ?_
  refine SXL.loadNo 5 sh_27 rfl rfl rfl ?_
  refine SXL.nil ⟨rfl, rfl, rfl, ?_⟩
  refine SXA.all [37] (by kernel_rfl) rfl ⟨⟨?_, rfl⟩, trivial⟩
  refine (show SXL _ _ [_] _ _ from ?_)
  refine SXL.callF (SpR fnt) fn_67 rfl (fun w hI => fountain_any [] none 0 (by simp) w (.nil _ _ _)) ?_; rintro _ _ ⟨ra216, rb216, oa216, ob216, rfl, rfl⟩
  refine SXL.nil (stepQ.mk _ rfl rfl ?_)
  refine SXA.take 38 3 rfl (by kernel_rfl) rfl ?_
  refine SXL.call1 (.bool true) fn_29 rfl (fun w hI => (same_any fnt fnt ra176.addr rb176.addr ra216.addr rb216.addr ra176.cap rb176.cap ra216.cap rb216.cap (by decide) (by decide) _ (spAtOwn hI oa176 ob176 (i := 3) (j := 4) rfl rfl) (spAtOwn hI oa216 ob216 (i := 8) (j := 9) rfl rfl)).eqv (congrArg Value.bool (decide_eq_true rfl))) ?_
  refine SXL.pickAt (EnvSub.refl _) rfl rfl ?_ rfl rfl
  refine SXL.assign rfl ?_
  refine SXL.nil ⟨rfl, rfl, rfl, ?_⟩
  refine SXA.done (by kernel_rfl) ?_
  refine SXL.nil ?_
  refine thenQ.normal ?_
  refine SX.ret ?_
  refine retQ.dead [] rfl ?_
  refine retQ.one (ResAt.tmp rfl) ?_
  rfl
end Go.Proofs.YtknflipongbngaaDoor

/- What is told, from week to week. Nothing of Go stands here. -/
namespace Go.S
open Go.X (G idxF idxF_some idxF_none)
theorem told_of_true {s : Sp} (hv : SpP s) (ht : TrueP s) {k : Nat} (hk : k < s.weeks.toNat) : toldE s k = 0 := by
  have hH := hv.1; unfold HeadP at hH
  unfold toldE
  rw [if_neg (fun h => h hv), if_neg (fun h => h ⟨by omega, by omega⟩), if_neg ht]
theorem told_same {s : Sp} (he : toldE s 0 = 0) {k : Nat} (hk : k < s.weeks.toNat) : toldE s k = 0 ∧ toldA s k = toldA s 0 := by
  obtain ⟨hv, _, ht⟩ := toldE_valid he
  have h := told_of_true hv ht hk
  exact ⟨h, by rw [toldA, toldA, toldL_ok h, toldL_ok he]⟩
theorem gives_at {s : Sp} (he : toldE s 0 = 0) {k : Nat} (hk : k < s.weeks.toNat) : givesLo s k = hLo (toldA s 0) k ∧ givesHi s k = hHi (toldA s 0) k := by
  obtain ⟨h, ha⟩ := told_same he hk
  rw [givesLo, givesHi, if_pos h, if_pos h, ha]
  exact ⟨rfl, rfl⟩
theorem hLo_le {A : List (List Int)} {w : Nat} : ∀ k, (∀ i, i < k → hLoTo A w k ≤ G (A.getD i []) w) ∧ (∀ i, i < k → G (A.getD i []) (10 + w) ≤ hHiTo A w k)
  | 0 => ⟨fun _ h => absurd h (Nat.not_lt_zero _), fun _ h => absurd h (Nat.not_lt_zero _)⟩
  | k + 1 => by
    obtain ⟨h1, h2⟩ := hLo_le (A := A) (w := w) k
    refine ⟨fun i hi => ?_, fun i hi => ?_⟩ <;> simp only [hLoTo, hHiTo]
    · rcases Nat.lt_or_ge i k with h | h
      · have := h1 i h; omega
      · obtain rfl : i = k := by omega
        omega
    · rcases Nat.lt_or_ge i k with h | h
      · have := h2 i h; omega
      · obtain rfl : i = k := by omega
        omega
theorem hLo_ex {A : List (List Int)} {w : Nat} (hA : 0 < A.length) : ∀ k, k ≤ A.length → (∃ i, i < A.length ∧ hLoTo A w k = G (A.getD i []) w) ∧ (∃ i, i < A.length ∧ hHiTo A w k = G (A.getD i []) (10 + w))
  | 0, _ => ⟨⟨0, hA, rfl⟩, ⟨0, hA, rfl⟩⟩
  | k + 1, hk => by
    obtain ⟨⟨i, hi, e1⟩, ⟨j, hj, e2⟩⟩ := hLo_ex (A := A) (w := w) hA k (by omega)
    simp only [hLoTo, hHiTo]
    refine ⟨?_, ?_⟩
    · by_cases h : hLoTo A w k ≤ G (A.getD k []) w
      · exact ⟨i, hi, by omega⟩
      · exact ⟨k, by omega, by omega⟩
    · by_cases h : G (A.getD k []) (10 + w) ≤ hHiTo A w k
      · exact ⟨j, hj, by omega⟩
      · exact ⟨k, by omega, by omega⟩
/-- Each rain's levels are truths. -/
theorem lev_tl {s : Sp} (he : toldE s 0 = 0) {i : Nat} (hi : i < (toldA s 0).length) : ∃ r, r ∈ toldL s 0 ∧ (toldA s 0).getD i [] = lvL s (baseL s) r ∧ Tl s (baseL s) r (fun w => G ((toldA s 0).getD i []) w) ∧ Tl s (baseL s) r (fun w => G ((toldA s 0).getD i []) (10 + w)) := by
  obtain ⟨hv, _, _⟩ := toldE_valid he
  obtain ⟨r, hr, e⟩ := List.mem_map.1 (getD_mem hi)
  have hr2 := hr
  rw [toldL_ok he] at hr2
  have := lv_ends hv (base_len hv) (mem_rnsL.1 hr2).2
  rw [e] at this
  exact ⟨r, hr, e.symm, this⟩
theorem gives_in {s : Sp} (he : toldE s 0 = 0) {k : Nat} (hk : k < s.weeks.toNat) : 0 ≤ givesLo s k ∧ givesLo s k ≤ givesHi s k ∧ givesHi s k ≤ s.most := by
  obtain ⟨e1, e2⟩ := gives_at he hk
  have hA : 0 < (toldA s 0).length := by rw [told_lens]; exact toldL_pos he
  obtain ⟨i, hi, h1⟩ := (hLo_ex (w := k) hA (toldA s 0).length (Nat.le_refl _)).1
  obtain ⟨j, hj, h2⟩ := (hLo_ex (w := k) hA (toldA s 0).length (Nat.le_refl _)).2
  have h3 := (hLo_le (A := toldA s 0) (w := k) (toldA s 0).length).1 j hj
  have a := toldA_nonneg he hi hk
  have b := toldA_nonneg he hj hk
  rw [e1, e2, hLo, hHi]
  omega
/-- From week to week a spring gives no more, and falls by no more than it can. -/
theorem gives_step {s : Sp} (he : toldE s 0 = 0) {k : Nat} (hk : k + 1 < s.weeks.toNat) : (givesLo s (k + 1 : Nat) ≤ givesLo s k ∧ givesHi s (k + 1 : Nat) ≤ givesHi s k) ∧ givesLo s k - s.fall ≤ givesLo s (k + 1 : Nat) ∧ givesHi s k - s.fall ≤ givesHi s (k + 1 : Nat) := by
  obtain ⟨e1, e2⟩ := gives_at he hk
  obtain ⟨e3, e4⟩ := gives_at he (k := k) (by omega)
  have hA : 0 < (toldA s 0).length := by rw [told_lens]; exact toldL_pos he
  rw [e1, e2, e3, e4]
  obtain ⟨⟨i1, hi1, x1⟩, ⟨i2, hi2, x2⟩⟩ := hLo_ex (w := k) hA (toldA s 0).length (Nat.le_refl _)
  obtain ⟨⟨i3, hi3, x3⟩, ⟨i4, hi4, x4⟩⟩ := hLo_ex (w := k + 1) hA (toldA s 0).length (Nat.le_refl _)
  have l1 := (hLo_le (A := toldA s 0) (w := k + 1) (toldA s 0).length).1 i1 hi1
  have l2 := (hLo_le (A := toldA s 0) (w := k) (toldA s 0).length).1 i3 hi3
  have l3 := (hLo_le (A := toldA s 0) (w := k + 1) (toldA s 0).length).2 i2 hi2
  have l4 := (hLo_le (A := toldA s 0) (w := k) (toldA s 0).length).2 i4 hi4
  have st : ∀ i, i < (toldA s 0).length → (G ((toldA s 0).getD i []) k - s.fall ≤ G ((toldA s 0).getD i []) (k + 1) ∧ G ((toldA s 0).getD i []) (k + 1) ≤ G ((toldA s 0).getD i []) k) ∧ (G ((toldA s 0).getD i []) (10 + k) - s.fall ≤ G ((toldA s 0).getD i []) (10 + (k + 1)) ∧ G ((toldA s 0).getD i []) (10 + (k + 1)) ≤ G ((toldA s 0).getD i []) (10 + k)) := by
    intro i hi
    obtain ⟨r, _, _, t1, t2⟩ := lev_tl he hi
    have a := (t1 (k + 1) hk).2.2 (by omega)
    have b := (t2 (k + 1) hk).2.2 (by omega)
    exact ⟨a, b⟩
  have s1 := st i1 hi1
  have s2 := st i2 hi2
  have s3 := st i3 hi3
  have s4 := st i4 hi4
  unfold hLo hHi
  omega
theorem gives_down {s : Sp} (he : toldE s 0 = 0) {k : Nat} : ∀ d, k + d < s.weeks.toNat → givesLo s (k + d : Nat) ≤ givesLo s k ∧ givesHi s (k + d : Nat) ≤ givesHi s k
  | 0, _ => ⟨Int.le_refl _, Int.le_refl _⟩
  | d + 1, h => by
    have ih := gives_down he (k := k) d (by omega)
    have := gives_step he (k := k + d) h
    rw [show k + (d + 1) = k + d + 1 from rfl]
    omega
theorem gives_mono {s : Sp} (he : toldE s 0 = 0) {k j : Nat} (hkj : k ≤ j) (hj : j < s.weeks.toNat) : givesLo s j ≤ givesLo s k ∧ givesHi s j ≤ givesHi s k := by
  have := gives_down he (k := k) (j - k) (by omega)
  rwa [show k + (j - k) = j by omega] at this
theorem idxF_cases (p : Nat → Prop) [DecidablePred p] (n : Nat) : (∃ k, k < n ∧ p k ∧ (∀ i, i < k → ¬p i) ∧ idxF p n = k) ∨ ((∀ i, i < n → ¬p i) ∧ idxF p n = -1) := by
  by_cases h : ∃ k, k < n ∧ p k
  · obtain ⟨k, hk⟩ := h
    induction k using Nat.strongRecOn with
    | ind k ih =>
      by_cases h2 : ∃ j, j < k ∧ p j
      · obtain ⟨j, hj, hp⟩ := h2
        exact ih j hj ⟨by omega, hp⟩
      · have hn : ∀ i, i < k → ¬p i := fun i hi hp => h2 ⟨i, hi, hp⟩
        exact .inl ⟨k, hk.1, hk.2, hn, idxF_some hk.1 hk.2 hn⟩
  · have hn : ∀ i, i < n → ¬p i := fun i hi hp => h ⟨i, hi, hp⟩
    exact .inr ⟨hn, idxF_none hn⟩
/-- The weeks in which it perhaps, and surely, fails first. -/
theorem wk_facts {s : Sp} (he : toldE s 0 = 0) (need : Int) : (wkE s (loI s need) = 0 ∨ wkE s (loI s need) = 6) ∧ (wkE s (hiI s need) = 0 ∨ wkE s (hiI s need) = 6) ∧
    (wkE s (hiI s need) = 0 → wkE s (loI s need) = 0 ∧ wkV s (loI s need) ≤ wkV s (hiI s need)) ∧
    (∀ k : Nat, k < s.weeks.toNat → ((knownV s k need = 2 ↔ (wkE s (loI s need) ≠ 0 ∨ (k : Int) < wkV s (loI s need))) ∧ (knownV s k need = 0 ↔ (wkE s (hiI s need) = 0 ∧ wkV s (hiI s need) ≤ (k : Int))))) := by
  have key : ∀ k : Nat, k < s.weeks.toNat → knownV s k need = if need ≤ hLo (toldA s 0) k then 2 else if hHi (toldA s 0) k < need then 0 else 1 := fun k hk => by
    obtain ⟨e1, e2⟩ := gives_at he hk
    rw [knownV, if_neg (fun h => h (told_same he hk).1), e1, e2]
  have mono : ∀ k j : Nat, k ≤ j → j < s.weeks.toNat → (hLo (toldA s 0) j ≤ hLo (toldA s 0) k ∧ hHi (toldA s 0) j ≤ hHi (toldA s 0) k) ∧ hLo (toldA s 0) k ≤ hHi (toldA s 0) k := fun k j hkj hj => by
    have a := gives_mono he hkj hj
    obtain ⟨e1, e2⟩ := gives_at he hj
    obtain ⟨e3, e4⟩ := gives_at he (k := k) (by omega)
    have b := (gives_in he (k := k) (by omega)).2.1
    rw [e1, e2, e3, e4] at a
    rw [e3, e4] at b
    exact ⟨a, b⟩
  have hlo : wkE s (loI s need) = (if 0 ≤ loI s need then 0 else 6) ∧ wkV s (loI s need) = (if 0 ≤ loI s need then loI s need else 0) := by
    simp [wkE, wkV, he]
  have hhi : wkE s (hiI s need) = (if 0 ≤ hiI s need then 0 else 6) ∧ wkV s (hiI s need) = (if 0 ≤ hiI s need then hiI s need else 0) := by
    simp [wkE, wkV, he]
  rcases idxF_cases (fun w => hLo (toldA s 0) w < need) s.weeks.toNat with ⟨a, ha, pa, na, ea⟩ | ⟨na, ea⟩ <;>
  rcases idxF_cases (fun w => hHi (toldA s 0) w < need) s.weeks.toNat with ⟨b, hb, pb, nb, eb⟩ | ⟨nb, eb⟩
  · have ea' : loI s need = a := ea
    have eb' : hiI s need = b := eb
    rw [ea', if_pos (by omega), if_pos (by omega)] at hlo
    rw [eb', if_pos (by omega), if_pos (by omega)] at hhi
    rw [ea', eb', hlo.1, hlo.2, hhi.1, hhi.2]
    refine ⟨.inl rfl, .inl rfl, fun _ => ⟨rfl, ?_⟩, fun k hk => ?_⟩
    · rcases Nat.lt_or_ge b a with h | h
      · have := na b h; have := (mono b b (Nat.le_refl _) hb).2; omega
      · omega
    · rw [key k hk]
      have m1 := (mono k k (Nat.le_refl _) hk).2
      have p1 : (k < a → need ≤ hLo (toldA s 0) k) ∧ (a ≤ k → hLo (toldA s 0) k < need) := ⟨fun h => by have := na k h; omega, fun h => by have := (mono a k h hk).1.1; omega⟩
      have p2 : (k < b → need ≤ hHi (toldA s 0) k) ∧ (b ≤ k → hHi (toldA s 0) k < need) := ⟨fun h => by have := nb k h; omega, fun h => by have := (mono b k h hk).1.2; omega⟩
      split
      · refine ⟨⟨fun _ => .inr (by omega), fun _ => rfl⟩, ⟨fun h => by omega, fun h => by omega⟩⟩
      · split
        · exact ⟨⟨fun h => by omega, fun h => by omega⟩, ⟨fun _ => ⟨rfl, by omega⟩, fun _ => rfl⟩⟩
        · exact ⟨⟨fun h => by omega, fun h => by omega⟩, ⟨fun h => by omega, fun h => by omega⟩⟩
  · have ea' : loI s need = a := ea
    have eb' : hiI s need = -1 := eb
    rw [ea', if_pos (by omega), if_pos (by omega)] at hlo
    rw [eb', if_neg (by omega), if_neg (by omega)] at hhi
    rw [ea', eb', hlo.1, hlo.2, hhi.1, hhi.2]
    refine ⟨.inl rfl, .inr rfl, fun h => by omega, fun k hk => ?_⟩
    rw [key k hk]
    have m1 := (mono k k (Nat.le_refl _) hk).2
    have p1 : (k < a → need ≤ hLo (toldA s 0) k) ∧ (a ≤ k → hLo (toldA s 0) k < need) := ⟨fun h => by have := na k h; omega, fun h => by have := (mono a k h hk).1.1; omega⟩
    have p2 := nb k hk
    have p2' : ¬hHi (toldA s 0) k < need := p2
    rw [if_neg p2']
    split
    · refine ⟨⟨fun _ => .inr (by omega), fun _ => rfl⟩, ⟨fun h => by omega, fun h => by omega⟩⟩
    · exact ⟨⟨fun h => by omega, fun h => by omega⟩, ⟨fun h => by omega, fun h => by omega⟩⟩
  · exfalso
    have := na b hb; have := (mono b b (Nat.le_refl _) hb).2; omega
  · have ea' : loI s need = -1 := ea
    have eb' : hiI s need = -1 := eb
    rw [ea', if_neg (by omega), if_neg (by omega)] at hlo
    rw [eb', if_neg (by omega), if_neg (by omega)] at hhi
    rw [ea', eb', hlo.1, hlo.2]
    refine ⟨.inr rfl, .inr rfl, fun h => by omega, fun k hk => ?_⟩
    rw [key k hk]
    have p1 := na k hk
    have p2 := nb k hk
    rw [if_pos (by omega)]
    exact ⟨⟨fun _ => .inl (by omega), fun _ => rfl⟩, ⟨fun h => by omega, fun h => by omega⟩⟩
end Go.S

/- SpringWeeks: the walk. -/
namespace Go.Proofs.YtknflipongbngaaDoor
open Go.X Go.S Go.RowKit
set_option maxHeartbeats 4000000 in
theorem weeks_law (s : Sp) (bo ro : Option Addr) (bc rc : Nat) (need : Int) (w : World) (hg : Gl w) (hs : SpAt w s bo ro) :
    CallsR Tryd.prog 9 [.agg ⟨[.int .i64 s.weeks, .int .i64 s.most, .int .i64 s.fall, .int .i64 s.a0, .int .i64 s.a1, .int .i64 s.w0, .int .i64 s.w1, (.slice bo s.book.length bc), (.slice ro s.reads.length rc)]⟩, .int .i64 need] w (fun v _ => v = .bool true) := by
  refine CallsR.of_SX (n := 168) (rs := [.tmp 4]) Tryd.func9 rfl rfl rfl rfl ?_
  show SX _ _ _ ⟨[(0, .agg ⟨[.int .i64 s.weeks, .int .i64 s.most, .int .i64 s.fall, .int .i64 s.a0, .int .i64 s.a1, .int .i64 s.w0, .int .i64 s.w1, (.slice bo s.book.length bc), (.slice ro s.reads.length rc)]⟩), (1, .int .i64 need)], [], []⟩
  refine SX.seq ?_
  refine SX.region ?_
  refine SXL.box rfl rfl ?_; intro b0
  refine SXL.assign rfl ?_
  refine SXL.nil ?_
  refine thenQ.normal ?_
  refine SX.seq ?_
  refine SX.region ?_
  refine SXL.call1 (.bool (decide (True))) fn_54 rfl (fun w hI => (alive_any w (hg.inv hI)).eqv rfl) ?_
  refine SXL.assign rfl ?_
  refine SXL.nil ?_
  refine thenQ.normal ?_
  refine SX.seq ?_
  refine SX.seq ?_
  refine SX.region ?_
  refine SXL.loadNo 0 sh_27 rfl rfl rfl ?_
  refine SXL.call1 (.bool (decide (¬((30 : Int) < (s.book.length : Int) ∨ (30 : Int) < (s.reads.length : Int)) ∧ SpP s))) fn_55 rfl (fun w hI => ready_any s bo ro bc rc _ (hs.inv hI)) ?_
  refine SXL.not rfl ?_
  refine SXL.move rfl ?_
  apply SXL.orG 3
  case hl => exact rfl
  case hd => exact rfl
  case hg => exact rfl
  case ht =>
    intro gr
    refine SXL.pass rfl rfl rfl ?_
    refine SXL.pass rfl rfl rfl ?_
    refine SXL.pass rfl rfl rfl ?_
    exact SXL.nil (segQ.mk (.skip rfl (.skip rfl (.skip rfl (.skip rfl (EnvSub.refl _))))) rfl rfl rfl)
  case hf =>
    intro gr
    have gv := (Decidable.not_not.1 gr).2
    refine SXL.loadNo 0 sh_27 rfl rfl rfl ?_
    refine SXL.call1 (.bool (decide (TrueP s))) fn_60 rfl (fun w hI => true_any s bo ro bc rc gv _ (hs.inv hI)) ?_
    refine SXL.not rfl ?_
    exact SXL.nil (segQ.mk (.skip rfl (.skip rfl (.skip rfl (.skip rfl (EnvSub.refl _))))) rfl rfl ⟨rfl, rfl⟩)
  refine SXL.move rfl ?_
  apply SXL.orG 2
  case hl => exact rfl
  case hd => exact rfl
  case hg => exact rfl
  case ht =>
    intro c28
    refine SXL.pass rfl rfl rfl ?_
    refine SXL.pass rfl rfl rfl ?_
    exact SXL.nil (segQ.mk (.skip rfl (.skip rfl (.skip rfl (EnvSub.refl _)))) rfl rfl rfl)
  case hf =>
    intro c28
    refine SXL.move rfl ?_
    refine SXL.not rfl ?_
    exact SXL.nil (segQ.mk (.skip rfl (.skip rfl (.skip rfl (EnvSub.refl _)))) rfl rfl ⟨rfl, rfl⟩)
  refine SXL.nil ?_
  refine thenQ.normal ?_
  refine SX.condP rfl (fun c28 => ?_) (fun c28 => ?_)
  · refine SX.seq ?_
    refine SX.region ?_
    refine SXL.move rfl ?_
    refine SXL.assign rfl ?_
    refine SXL.nil ?_
    refine thenQ.normal ?_
    refine SX.ret ?_
    refine thenQ.ret ?_
    refine retQ.dead [] rfl ?_
    refine retQ.one (ResAt.tmp rfl) ?_
    first | rfl | exact congrArg Value.bool (decide_eq_true trivial)
  · refine SX.skip ?_
    refine thenQ.normal ?_
    refine SX.seq ?_
    have hpre : (¬((30 : Int) < (s.book.length : Int) ∨ (30 : Int) < (s.reads.length : Int)) ∧ SpP s) ∧ TrueP s := by
          by_cases h1 : ¬((30 : Int) < (s.book.length : Int) ∨ (30 : Int) < (s.reads.length : Int)) ∧ SpP s
          · by_cases h2 : TrueP s
            · exact ⟨h1, h2⟩
            · exact absurd (by first | exact .inl (.inr h2) | exact .inr h2) c28
          · exact absurd (by first | exact .inl (.inl h1) | exact .inl h1 | exact h1) c28
    obtain ⟨⟨hgr, hv⟩, ht⟩ := hpre
    have hH := hv.1
    unfold HeadP at hH
    have hTo : toldE s 0 = 0 := toldE_ok hv ⟨by omega, by omega⟩ ht
    obtain ⟨wf1, wf2, wf3, wf4⟩ := wk_facts hTo need
    refine SX.region ?_
    refine SXL.loadNo 0 sh_27 rfl rfl rfl ?_
    refine SXL.move rfl ?_
    refine SXL.call1 (.tuple ⟨[.int .i64 (wkV s (loI s need)), .int .i64 (wkE s (loI s need))]⟩) fn_42 rfl (fun w hI => sfails_any s bo ro bc rc need (by omega) (by omega) _ (hg.inv hI) (hs.inv hI)) ?_
    refine SXL.move rfl ?_
    refine SXL.extract rfl rfl ?_
    refine SXL.extract rfl rfl ?_
    refine SXL.assign rfl ?_
    refine SXL.assign rfl ?_
    refine SXL.nil ?_
    refine thenQ.normal ?_
    refine SX.seq ?_
    refine SX.region ?_
    refine SXL.loadNo 0 sh_27 rfl rfl rfl ?_
    refine SXL.move rfl ?_
    refine SXL.call1 (.tuple ⟨[.int .i64 (wkV s (hiI s need)), .int .i64 (wkE s (hiI s need))]⟩) fn_44 rfl (fun w hI => ssurely_any s bo ro bc rc need (by omega) (by omega) _ (hg.inv hI) (hs.inv hI)) ?_
    refine SXL.move rfl ?_
    refine SXL.extract rfl rfl ?_
    refine SXL.extract rfl rfl ?_
    refine SXL.assign rfl ?_
    refine SXL.assign rfl ?_
    refine SXL.nil ?_
    refine thenQ.normal ?_
    refine SX.seq ?_
    refine SX.seq ?_
    refine SX.region ?_
    refine SXL.move rfl ?_
    refine SXL.neqI rfl rfl ?_
    refine SXL.move rfl ?_
    apply SXL.andG 2
    case hl => exact rfl
    case hd => exact rfl
    case hg => exact rfl
    case ht =>
      intro g4
      refine SXL.move rfl ?_
      refine SXL.neqI rfl rfl ?_
      exact SXL.nil (segQ.mk (.skip rfl (.skip rfl (.skip rfl (EnvSub.refl _)))) rfl rfl ⟨rfl, rfl⟩)
    case hf =>
      intro g4
      refine SXL.pass rfl rfl rfl ?_
      refine SXL.pass rfl rfl rfl ?_
      exact SXL.nil (segQ.mk (.skip rfl (.skip rfl (.skip rfl (EnvSub.refl _)))) rfl rfl rfl)
    refine SXL.move rfl ?_
    apply SXL.orG 6
    case hl => exact rfl
    case hd => exact rfl
    case hg => exact rfl
    case ht =>
      intro g5
      refine SXL.pass rfl rfl rfl ?_
      refine SXL.pass rfl rfl rfl ?_
      refine SXL.pass rfl rfl rfl ?_
      refine SXL.pass rfl rfl rfl ?_
      refine SXL.pass rfl rfl rfl ?_
      refine SXL.pass rfl rfl rfl ?_
      exact SXL.nil (segQ.mk (.skip rfl (.skip rfl (.skip rfl (.skip rfl (.skip rfl (.skip rfl (.skip rfl (EnvSub.refl _)))))))) rfl rfl rfl)
    case hf =>
      intro g5
      refine SXL.move rfl ?_
      refine SXL.neqI rfl rfl ?_
      refine SXL.move rfl ?_
      apply SXL.andG 2
      case hl => exact rfl
      case hd => exact rfl
      case hg => exact rfl
      case ht =>
        intro g6
        refine SXL.move rfl ?_
        refine SXL.neqI rfl rfl ?_
        exact SXL.nil (segQ.mk (.skip rfl (.skip rfl (.skip rfl (EnvSub.refl _)))) rfl rfl ⟨rfl, rfl⟩)
      case hf =>
        intro g6
        refine SXL.pass rfl rfl rfl ?_
        refine SXL.pass rfl rfl rfl ?_
        exact SXL.nil (segQ.mk (.skip rfl (.skip rfl (.skip rfl (EnvSub.refl _)))) rfl rfl rfl)
      exact SXL.nil (segQ.mk (.skip rfl (.skip rfl (.skip rfl (.skip rfl (EnvSub.refl _))))) rfl rfl ⟨rfl, rfl⟩)
    refine SXL.move rfl ?_
    apply SXL.orG 11
    case hl => exact rfl
    case hd => exact rfl
    case hg => exact rfl
    case ht =>
      intro c68
      refine SXL.pass rfl rfl rfl ?_
      refine SXL.pass rfl rfl rfl ?_
      refine SXL.pass rfl rfl rfl ?_
      refine SXL.pass rfl rfl rfl ?_
      refine SXL.pass rfl rfl rfl ?_
      refine SXL.pass rfl rfl rfl ?_
      refine SXL.pass rfl rfl rfl ?_
      refine SXL.pass rfl rfl rfl ?_
      refine SXL.pass rfl rfl rfl ?_
      refine SXL.pass rfl rfl rfl ?_
      refine SXL.pass rfl rfl rfl ?_
      exact SXL.nil (segQ.mk (.skip rfl (.skip rfl (.skip rfl (.skip rfl (.skip rfl (.skip rfl (.skip rfl (.skip rfl (.skip rfl (.skip rfl (.skip rfl (.skip rfl (EnvSub.refl _))))))))))))) rfl rfl rfl)
    case hf =>
      intro c68
      refine SXL.move rfl ?_
      refine SXL.eqlI rfl rfl ?_
      refine SXL.move rfl ?_
      apply SXL.andG 7
      case hl => exact rfl
      case hd => exact rfl
      case hg => exact rfl
      case ht =>
        intro g8
        refine SXL.move rfl ?_
        refine SXL.neqI rfl rfl ?_
        refine SXL.move rfl ?_
        apply SXL.orG 3
        case hl => exact rfl
        case hd => exact rfl
        case hg => exact rfl
        case ht =>
          intro g9
          refine SXL.pass rfl rfl rfl ?_
          refine SXL.pass rfl rfl rfl ?_
          refine SXL.pass rfl rfl rfl ?_
          exact SXL.nil (segQ.mk (.skip rfl (.skip rfl (.skip rfl (.skip rfl (EnvSub.refl _))))) rfl rfl rfl)
        case hf =>
          intro g9
          refine SXL.move rfl ?_
          refine SXL.move rfl ?_
          refine SXL.lss rfl rfl ?_
          exact SXL.nil (segQ.mk (.skip rfl (.skip rfl (.skip rfl (.skip rfl (EnvSub.refl _))))) rfl rfl ⟨rfl, rfl⟩)
        exact SXL.nil (segQ.mk (.skip rfl (.skip rfl (.skip rfl (.skip rfl (EnvSub.refl _))))) rfl rfl ⟨rfl, rfl⟩)
      case hf =>
        intro g8
        refine SXL.pass rfl rfl rfl ?_
        refine SXL.pass rfl rfl rfl ?_
        refine SXL.pass rfl rfl rfl ?_
        refine SXL.pass rfl rfl rfl ?_
        refine SXL.pass rfl rfl rfl ?_
        refine SXL.pass rfl rfl rfl ?_
        refine SXL.pass rfl rfl rfl ?_
        exact SXL.nil (segQ.mk (.skip rfl (.skip rfl (.skip rfl (.skip rfl (.skip rfl (.skip rfl (.skip rfl (.skip rfl (EnvSub.refl _))))))))) rfl rfl rfl)
      exact SXL.nil (segQ.mk (.skip rfl (.skip rfl (.skip rfl (.skip rfl (EnvSub.refl _))))) rfl rfl ⟨rfl, rfl⟩)
    refine SXL.nil ?_
    refine thenQ.normal ?_
    refine SX.condP rfl (fun c68 => ?_) (fun c68 => ?_)
    · exfalso; omega
    refine SX.skip ?_
    refine thenQ.normal ?_
    refine SX.seq ?_
    refine SX.region ?_
    refine SXL.alloc zp_23 ?_; intro b1
    refine SXL.nil ?_
    refine thenQ.normal ?_
    refine SX.seq ?_
    refine SX.seq ?_
    refine SX.region ?_
    refine SXL.fieldAddr fp_27_0 rfl ?_
    refine SXL.load1o 0 sh_3 rfl rfl rfl ?_
    refine SXL.move rfl ?_
    refine SXL.nil ?_
    refine thenQ.normal ?_
    refine SX.block ?_
    refine SX.loopW (α := Nat × Int × Int) [1, 2, 4, 5, 6, 7, 8, 9, 10, 70] rfl (fun ⟨k, x, y⟩ => [(71, .int .i64 ((k : Int)))]) (fun ⟨k, x, y⟩ => [(b0, .cells ⟨[.int .i64 s.weeks, .int .i64 s.most, .int .i64 s.fall, .int .i64 s.a0, .int .i64 s.a1, .int .i64 s.w0, .int .i64 s.w1, (.slice bo s.book.length bc), (.slice ro s.reads.length rc)]⟩ 27 (0, 0)), (b1, .cells ⟨[.int .i64 x, .int .i64 y]⟩ 23 (0, 0))]) (fun ⟨k, x, y⟩ => []) (fun ⟨k, x, y⟩ => k ≤ s.weeks.toNat ∧ ((0 ≤ x ∧ x ≤ 100) ∧ 0 ≤ y ∧ y ≤ 100) ∧ (0 < k → x = givesLo s ((k - 1 : Nat) : Int) ∧ y = givesHi s ((k - 1 : Nat) : Int))) (fun ⟨k, x, y⟩ => s.weeks.toNat - k) (0, 0, 0) ⟨Nat.zero_le _, by omega, fun h => absurd h (Nat.lt_irrefl _)⟩ ⟨rfl, trivial⟩ rfl ?_
    rintro ⟨k, x, y⟩ ⟨hk0, hxy, hp⟩
    refine SX.seq ?_
    refine SX.region ?_
    refine SXL.lss rfl rfl ?_
    refine SXL.nil ?_
    refine thenQ.normal ?_
    refine SX.seq ?_
    refine SX.condP rfl (fun c11 => ?_) (fun c11 => ?_)
    · refine SX.skip ?_
      refine thenQ.normal ?_
      refine SX.seq ?_
      refine SX.block ?_
      refine SX.seq ?_
      have hk : k < s.weeks.toNat := by omega
      have hek := (told_same hTo hk).1
      have hin := gives_in hTo hk
      have hst : 0 < k → (givesLo s k ≤ x ∧ givesHi s k ≤ y) ∧ x - s.fall ≤ givesLo s k ∧ y - s.fall ≤ givesHi s k := fun h => by
                obtain ⟨e1, e2⟩ := hp h
                have := gives_step hTo (k := k - 1) (by omega)
                rw [show k - 1 + 1 = k by omega] at this
                rw [e1, e2]; exact this
      obtain ⟨wk1, wk2⟩ := wf4 k hk
      refine SX.region ?_
      refine SXL.move rfl ?_
      refine SXL.assign rfl ?_
      refine SXL.nil ?_
      refine thenQ.normal ?_
      refine SX.seq ?_
      refine SX.region ?_
      refine SXL.loadNo 0 sh_27 rfl rfl rfl ?_
      refine SXL.move rfl ?_
      refine SXL.call1 (.tuple ⟨[.agg ⟨[.int .i64 ((givesLo s (k : Int))), .int .i64 ((givesHi s (k : Int)))]⟩, .int .i64 (toldE s (k : Int))]⟩) fn_22 rfl (fun w hI => sgives_any s bo ro bc rc (k : Int) (by omega) (by omega) _ (hg.inv hI) (hs.inv hI)) ?_
      refine SXL.move rfl ?_
      refine SXL.extract rfl rfl ?_
      refine SXL.extract rfl rfl ?_
      refine SXL.alloc zp_23 ?_; intro b2
      refine SXL.store 2 sz_23 rfl rfl rfl rfl rfl rfl ?_
      refine SXL.assign rfl ?_
      refine SXL.nil ?_
      refine thenQ.normal ?_
      refine SX.seq ?_
      refine SX.region ?_
      refine SXL.loadNo 0 sh_27 rfl rfl rfl ?_
      refine SXL.move rfl ?_
      refine SXL.move rfl ?_
      refine SXL.call1 (.tuple ⟨[.int .u8 (knownV s k need), .int .i64 (toldE s k)]⟩) fn_24 rfl (fun w hI => sknown_any s bo ro bc rc (k : Int) need (by omega) (by omega) _ (hg.inv hI) (hs.inv hI)) ?_
      refine SXL.move rfl ?_
      refine SXL.extract rfl rfl ?_
      refine SXL.extract rfl rfl ?_
      refine SXL.assign rfl ?_
      refine SXL.assign rfl ?_
      refine SXL.nil ?_
      refine thenQ.normal ?_
      refine SX.seq ?_
      refine SX.seq ?_
      refine SX.region ?_
      refine SXL.move rfl ?_
      refine SXL.neqI rfl rfl ?_
      refine SXL.move rfl ?_
      apply SXL.orG 2
      case hl => exact rfl
      case hd => exact rfl
      case hg => exact rfl
      case ht =>
        intro g12
        refine SXL.pass rfl rfl rfl ?_
        refine SXL.pass rfl rfl rfl ?_
        exact SXL.nil (segQ.mk (.skip rfl (.skip rfl (.skip rfl (EnvSub.refl _)))) rfl rfl rfl)
      case hf =>
        intro g12
        refine SXL.move rfl ?_
        refine SXL.neqI rfl rfl ?_
        exact SXL.nil (segQ.mk (.skip rfl (.skip rfl (.skip rfl (EnvSub.refl _)))) rfl rfl ⟨rfl, rfl⟩)
      refine SXL.move rfl ?_
      apply SXL.orG 3
      case hl => exact rfl
      case hd => exact rfl
      case hg => exact rfl
      case ht =>
        intro g13
        refine SXL.pass rfl rfl rfl ?_
        refine SXL.pass rfl rfl rfl ?_
        refine SXL.pass rfl rfl rfl ?_
        exact SXL.nil (segQ.mk (.skip rfl (.skip rfl (.skip rfl (.skip rfl (EnvSub.refl _))))) rfl rfl rfl)
      case hf =>
        intro g13
        refine SXL.fieldAddr fp_23_0 rfl ?_
        refine SXL.load1o 2 sh_3 rfl rfl rfl ?_
        refine SXL.lss rfl rfl ?_
        exact SXL.nil (segQ.mk (.skip rfl (.skip rfl (.skip rfl (.skip rfl (EnvSub.refl _))))) rfl rfl ⟨rfl, rfl⟩)
      refine SXL.move rfl ?_
      apply SXL.orG 5
      case hl => exact rfl
      case hd => exact rfl
      case hg => exact rfl
      case ht =>
        intro g14
        refine SXL.pass rfl rfl rfl ?_
        refine SXL.pass rfl rfl rfl ?_
        refine SXL.pass rfl rfl rfl ?_
        refine SXL.pass rfl rfl rfl ?_
        refine SXL.pass rfl rfl rfl ?_
        exact SXL.nil (segQ.mk (.skip rfl (.skip rfl (.skip rfl (.skip rfl (.skip rfl (.skip rfl (EnvSub.refl _))))))) rfl rfl rfl)
      case hf =>
        intro g14
        refine SXL.fieldAddr fp_23_1 rfl ?_
        refine SXL.load1o 2 sh_3 rfl rfl rfl ?_
        refine SXL.fieldAddr fp_27_1 rfl ?_
        refine SXL.load1o 0 sh_3 rfl rfl rfl ?_
        refine SXL.gtr rfl rfl ?_
        exact SXL.nil (segQ.mk (.skip rfl (.skip rfl (.skip rfl (.skip rfl (.skip rfl (.skip rfl (EnvSub.refl _))))))) rfl rfl ⟨rfl, rfl⟩)
      refine SXL.move rfl ?_
      apply SXL.orG 36
      case hl => exact rfl
      case hd => exact rfl
      case hg => exact rfl
      case ht =>
        intro c142
        refine SXL.pass rfl rfl rfl ?_
        refine SXL.pass rfl rfl rfl ?_
        refine SXL.pass rfl rfl rfl ?_
        refine SXL.pass rfl rfl rfl ?_
        refine SXL.pass rfl rfl rfl ?_
        refine SXL.pass rfl rfl rfl ?_
        refine SXL.pass rfl rfl rfl ?_
        refine SXL.pass rfl rfl rfl ?_
        refine SXL.pass rfl rfl rfl ?_
        refine SXL.pass rfl rfl rfl ?_
        refine SXL.pass rfl rfl rfl ?_
        refine SXL.pass rfl rfl rfl ?_
        refine SXL.pass rfl rfl rfl ?_
        refine SXL.pass rfl rfl rfl ?_
        refine SXL.pass rfl rfl rfl ?_
        refine SXL.pass rfl rfl rfl ?_
        refine SXL.pass rfl rfl rfl ?_
        refine SXL.pass rfl rfl rfl ?_
        refine SXL.pass rfl rfl rfl ?_
        refine SXL.pass rfl rfl rfl ?_
        refine SXL.pass rfl rfl rfl ?_
        refine SXL.pass rfl rfl rfl ?_
        refine SXL.pass rfl rfl rfl ?_
        refine SXL.pass rfl rfl rfl ?_
        refine SXL.pass rfl rfl rfl ?_
        refine SXL.pass rfl rfl rfl ?_
        refine SXL.pass rfl rfl rfl ?_
        refine SXL.pass rfl rfl rfl ?_
        refine SXL.pass rfl rfl rfl ?_
        refine SXL.pass rfl rfl rfl ?_
        refine SXL.pass rfl rfl rfl ?_
        refine SXL.pass rfl rfl rfl ?_
        refine SXL.pass rfl rfl rfl ?_
        refine SXL.pass rfl rfl rfl ?_
        refine SXL.pass rfl rfl rfl ?_
        refine SXL.pass rfl rfl rfl ?_
        exact SXL.nil (segQ.mk (.skip rfl (.skip rfl (.skip rfl (.skip rfl (.skip rfl (.skip rfl (.skip rfl (.skip rfl (.skip rfl (.skip rfl (.skip rfl (.skip rfl (.skip rfl (.skip rfl (.skip rfl (.skip rfl (.skip rfl (.skip rfl (.skip rfl (.skip rfl (.skip rfl (.skip rfl (.skip rfl (.skip rfl (.skip rfl (.skip rfl (.skip rfl (.skip rfl (.skip rfl (.skip rfl (.skip rfl (.skip rfl (.skip rfl (.skip rfl (.skip rfl (.skip rfl (.skip rfl (EnvSub.refl _)))))))))))))))))))))))))))))))))))))) rfl rfl rfl)
      case hf =>
        intro c142
        refine SXL.move rfl ?_
        refine SXL.gtr rfl rfl ?_
        refine SXL.move rfl ?_
        apply SXL.andG 32
        case hl => exact rfl
        case hd => exact rfl
        case hg => exact rfl
        case ht =>
          intro g16
          refine SXL.fieldAddr fp_23_0 rfl ?_
          refine SXL.load1o 2 sh_3 rfl rfl rfl ?_
          refine SXL.fieldAddr fp_23_0 rfl ?_
          refine SXL.load1o 1 sh_3 rfl rfl rfl ?_
          refine SXL.gtr rfl rfl ?_
          refine SXL.move rfl ?_
          apply SXL.orG 5
          case hl => exact rfl
          case hd => exact rfl
          case hg => exact rfl
          case ht =>
            intro g17
            refine SXL.pass rfl rfl rfl ?_
            refine SXL.pass rfl rfl rfl ?_
            refine SXL.pass rfl rfl rfl ?_
            refine SXL.pass rfl rfl rfl ?_
            refine SXL.pass rfl rfl rfl ?_
            exact SXL.nil (segQ.mk (.skip rfl (.skip rfl (.skip rfl (.skip rfl (.skip rfl (.skip rfl (EnvSub.refl _))))))) rfl rfl rfl)
          case hf =>
            intro g17
            refine SXL.fieldAddr fp_23_1 rfl ?_
            refine SXL.load1o 2 sh_3 rfl rfl rfl ?_
            refine SXL.fieldAddr fp_23_1 rfl ?_
            refine SXL.load1o 1 sh_3 rfl rfl rfl ?_
            refine SXL.gtr rfl rfl ?_
            exact SXL.nil (segQ.mk (.skip rfl (.skip rfl (.skip rfl (.skip rfl (.skip rfl (.skip rfl (EnvSub.refl _))))))) rfl rfl ⟨rfl, rfl⟩)
          refine SXL.move rfl ?_
          apply SXL.orG 8
          case hl => exact rfl
          case hd => exact rfl
          case hg => exact rfl
          case ht =>
            intro g18
            refine SXL.pass rfl rfl rfl ?_
            refine SXL.pass rfl rfl rfl ?_
            refine SXL.pass rfl rfl rfl ?_
            refine SXL.pass rfl rfl rfl ?_
            refine SXL.pass rfl rfl rfl ?_
            refine SXL.pass rfl rfl rfl ?_
            refine SXL.pass rfl rfl rfl ?_
            refine SXL.pass rfl rfl rfl ?_
            exact SXL.nil (segQ.mk (.skip rfl (.skip rfl (.skip rfl (.skip rfl (.skip rfl (.skip rfl (.skip rfl (.skip rfl (.skip rfl (EnvSub.refl _)))))))))) rfl rfl rfl)
          case hf =>
            intro g18
            refine SXL.fieldAddr fp_23_0 rfl ?_
            refine SXL.load1o 2 sh_3 rfl rfl rfl ?_
            refine SXL.fieldAddr fp_23_0 rfl ?_
            refine SXL.load1o 1 sh_3 rfl rfl rfl ?_
            refine SXL.fieldAddr fp_27_2 rfl ?_
            refine SXL.load1o 0 sh_3 rfl rfl rfl ?_
            refine SXL.sub rfl rfl (by omega) ?_
            refine SXL.lss rfl rfl ?_
            exact SXL.nil (segQ.mk (.skip rfl (.skip rfl (.skip rfl (.skip rfl (.skip rfl (.skip rfl (.skip rfl (.skip rfl (.skip rfl (EnvSub.refl _)))))))))) rfl rfl ⟨rfl, rfl⟩)
          refine SXL.move rfl ?_
          apply SXL.orG 8
          case hl => exact rfl
          case hd => exact rfl
          case hg => exact rfl
          case ht =>
            intro g19
            refine SXL.pass rfl rfl rfl ?_
            refine SXL.pass rfl rfl rfl ?_
            refine SXL.pass rfl rfl rfl ?_
            refine SXL.pass rfl rfl rfl ?_
            refine SXL.pass rfl rfl rfl ?_
            refine SXL.pass rfl rfl rfl ?_
            refine SXL.pass rfl rfl rfl ?_
            refine SXL.pass rfl rfl rfl ?_
            exact SXL.nil (segQ.mk (.skip rfl (.skip rfl (.skip rfl (.skip rfl (.skip rfl (.skip rfl (.skip rfl (.skip rfl (.skip rfl (EnvSub.refl _)))))))))) rfl rfl rfl)
          case hf =>
            intro g19
            refine SXL.fieldAddr fp_23_1 rfl ?_
            refine SXL.load1o 2 sh_3 rfl rfl rfl ?_
            refine SXL.fieldAddr fp_23_1 rfl ?_
            refine SXL.load1o 1 sh_3 rfl rfl rfl ?_
            refine SXL.fieldAddr fp_27_2 rfl ?_
            refine SXL.load1o 0 sh_3 rfl rfl rfl ?_
            refine SXL.sub rfl rfl (by omega) ?_
            refine SXL.lss rfl rfl ?_
            exact SXL.nil (segQ.mk (.skip rfl (.skip rfl (.skip rfl (.skip rfl (.skip rfl (.skip rfl (.skip rfl (.skip rfl (.skip rfl (EnvSub.refl _)))))))))) rfl rfl ⟨rfl, rfl⟩)
          exact SXL.nil (segQ.mk (.skip rfl (.skip rfl (.skip rfl (.skip rfl (.skip rfl (.skip rfl (.skip rfl (.skip rfl (.skip rfl (EnvSub.refl _)))))))))) rfl rfl ⟨rfl, rfl⟩)
        case hf =>
          intro g16
          refine SXL.pass rfl rfl rfl ?_
          refine SXL.pass rfl rfl rfl ?_
          refine SXL.pass rfl rfl rfl ?_
          refine SXL.pass rfl rfl rfl ?_
          refine SXL.pass rfl rfl rfl ?_
          refine SXL.pass rfl rfl rfl ?_
          refine SXL.pass rfl rfl rfl ?_
          refine SXL.pass rfl rfl rfl ?_
          refine SXL.pass rfl rfl rfl ?_
          refine SXL.pass rfl rfl rfl ?_
          refine SXL.pass rfl rfl rfl ?_
          refine SXL.pass rfl rfl rfl ?_
          refine SXL.pass rfl rfl rfl ?_
          refine SXL.pass rfl rfl rfl ?_
          refine SXL.pass rfl rfl rfl ?_
          refine SXL.pass rfl rfl rfl ?_
          refine SXL.pass rfl rfl rfl ?_
          refine SXL.pass rfl rfl rfl ?_
          refine SXL.pass rfl rfl rfl ?_
          refine SXL.pass rfl rfl rfl ?_
          refine SXL.pass rfl rfl rfl ?_
          refine SXL.pass rfl rfl rfl ?_
          refine SXL.pass rfl rfl rfl ?_
          refine SXL.pass rfl rfl rfl ?_
          refine SXL.pass rfl rfl rfl ?_
          refine SXL.pass rfl rfl rfl ?_
          refine SXL.pass rfl rfl rfl ?_
          refine SXL.pass rfl rfl rfl ?_
          refine SXL.pass rfl rfl rfl ?_
          refine SXL.pass rfl rfl rfl ?_
          refine SXL.pass rfl rfl rfl ?_
          refine SXL.pass rfl rfl rfl ?_
          exact SXL.nil (segQ.mk (.skip rfl (.skip rfl (.skip rfl (.skip rfl (.skip rfl (.skip rfl (.skip rfl (.skip rfl (.skip rfl (.skip rfl (.skip rfl (.skip rfl (.skip rfl (.skip rfl (.skip rfl (.skip rfl (.skip rfl (.skip rfl (.skip rfl (.skip rfl (.skip rfl (.skip rfl (.skip rfl (.skip rfl (.skip rfl (.skip rfl (.skip rfl (.skip rfl (.skip rfl (.skip rfl (.skip rfl (.skip rfl (.skip rfl (EnvSub.refl _)))))))))))))))))))))))))))))))))) rfl rfl rfl)
        exact SXL.nil (segQ.mk (.skip rfl (.skip rfl (.skip rfl (.skip rfl (EnvSub.refl _))))) rfl rfl ⟨rfl, rfl⟩)
      refine SXL.nil ?_
      refine thenQ.normal ?_
      refine SX.condP rfl (fun c142 => ?_) (fun c142 => ?_)
      · exfalso; omega
      refine SX.skip ?_
      refine thenQ.normal ?_
      refine SX.seq ?_
      refine SX.seq ?_
      refine SX.region ?_
      refine SXL.move rfl ?_
      refine SXL.eqlI rfl rfl ?_
      refine SXL.move rfl ?_
      refine SXL.neqI rfl rfl ?_
      refine SXL.move rfl ?_
      apply SXL.orG 3
      case hl => exact rfl
      case hd => exact rfl
      case hg => exact rfl
      case ht =>
        intro g21
        refine SXL.pass rfl rfl rfl ?_
        refine SXL.pass rfl rfl rfl ?_
        refine SXL.pass rfl rfl rfl ?_
        exact SXL.nil (segQ.mk (.skip rfl (.skip rfl (.skip rfl (.skip rfl (EnvSub.refl _))))) rfl rfl rfl)
      case hf =>
        intro g21
        refine SXL.move rfl ?_
        refine SXL.move rfl ?_
        refine SXL.lss rfl rfl ?_
        exact SXL.nil (segQ.mk (.skip rfl (.skip rfl (.skip rfl (.skip rfl (EnvSub.refl _))))) rfl rfl ⟨rfl, rfl⟩)
      refine SXL.neqB (by kernel_rfl) rfl rfl ?_
      refine SXL.move rfl ?_
      apply SXL.orG 10
      case hl => exact rfl
      case hd => exact rfl
      case hg => exact rfl
      case ht =>
        intro c164
        refine SXL.pass rfl rfl rfl ?_
        refine SXL.pass rfl rfl rfl ?_
        refine SXL.pass rfl rfl rfl ?_
        refine SXL.pass rfl rfl rfl ?_
        refine SXL.pass rfl rfl rfl ?_
        refine SXL.pass rfl rfl rfl ?_
        refine SXL.pass rfl rfl rfl ?_
        refine SXL.pass rfl rfl rfl ?_
        refine SXL.pass rfl rfl rfl ?_
        refine SXL.pass rfl rfl rfl ?_
        exact SXL.nil (segQ.mk (.skip rfl (.skip rfl (.skip rfl (.skip rfl (.skip rfl (.skip rfl (.skip rfl (.skip rfl (.skip rfl (.skip rfl (.skip rfl (EnvSub.refl _)))))))))))) rfl rfl rfl)
      case hf =>
        intro c164
        refine SXL.move rfl ?_
        refine SXL.eqlI rfl rfl ?_
        refine SXL.move rfl ?_
        refine SXL.eqlI rfl rfl ?_
        refine SXL.move rfl ?_
        apply SXL.andG 3
        case hl => exact rfl
        case hd => exact rfl
        case hg => exact rfl
        case ht =>
          intro g23
          refine SXL.move rfl ?_
          refine SXL.move rfl ?_
          refine SXL.geq rfl rfl ?_
          exact SXL.nil (segQ.mk (.skip rfl (.skip rfl (.skip rfl (.skip rfl (EnvSub.refl _))))) rfl rfl ⟨rfl, rfl⟩)
        case hf =>
          intro g23
          refine SXL.pass rfl rfl rfl ?_
          refine SXL.pass rfl rfl rfl ?_
          refine SXL.pass rfl rfl rfl ?_
          exact SXL.nil (segQ.mk (.skip rfl (.skip rfl (.skip rfl (.skip rfl (EnvSub.refl _))))) rfl rfl rfl)
        refine SXL.neqB (by kernel_rfl) rfl rfl ?_
        exact SXL.nil (segQ.mk (.skip rfl (.skip rfl (.skip rfl (.skip rfl (.skip rfl (.skip rfl (.skip rfl (EnvSub.refl _)))))))) rfl rfl ⟨rfl, rfl⟩)
      refine SXL.nil ?_
      refine thenQ.normal ?_
      refine SX.condP rfl (fun c164 => ?_) (fun c164 => ?_)
      · exfalso; omega
      refine SX.skip ?_
      refine thenQ.normal ?_
      refine SX.region ?_
      refine SXL.loadNo 2 sh_23 rfl rfl rfl ?_
      refine SXL.store 1 sz_23 rfl rfl rfl rfl rfl rfl ?_
      refine SXL.nil ?_
      refine blockQ.normal ?_
      refine thenQ.normal ?_
      refine SX.region ?_
      refine SXL.add rfl rfl (by omega) ?_
      refine SXL.move rfl ?_
      refine SXL.nil ?_
      refine thenQ.normal ?_
      refine ⟨(k + 1, _, _), MeetsW.mkP _ ⟨rfl, trivial⟩ ⟨rfl, rfl, rfl, rfl, rfl, rfl, rfl, rfl, rfl, rfl, trivial⟩ rfl, ⟨by omega, by omega, fun _ => ⟨rfl, rfl⟩⟩, (by show s.weeks.toNat - (k + 1) < s.weeks.toNat - k; omega)⟩
    · refine SX.exit ?_
      refine thenQ.exit ?_
      refine thenQ.exit ?_
      refine blockQ.exit ?_
      refine thenQ.normal ?_
      refine SX.seq ?_
      refine SX.region ?_
      refine SXL.move rfl ?_
      refine SXL.assign rfl ?_
      refine SXL.nil ?_
      refine thenQ.normal ?_
      refine SX.ret ?_
      refine retQ.dead [] rfl ?_
      refine retQ.one (ResAt.tmp rfl) ?_
      first | rfl | exact congrArg Value.bool (decide_eq_true trivial)
end Go.Proofs.YtknflipongbngaaDoor

/- How long a bucket takes. Nothing of Go stands here. -/
namespace Go.S
open Go.X (G)
theorem quo_facts {n h : Int} (hn : 0 ≤ n) (hh : 1 ≤ h) : (0 ≤ n / h ∧ n / h ≤ n) ∧ n / h * h ≤ n ∧ n < (n / h + 1) * h :=
  ⟨⟨Int.ediv_nonneg hn (by omega), Int.ediv_le_self _ hn⟩, Int.ediv_mul_le _ (by omega), Int.lt_ediv_add_one_mul_self _ (by omega)⟩
theorem ceil_facts {n l : Int} (hn : 1 ≤ n) (hl : 1 ≤ l) : (0 ≤ (n + l - 1) / l ∧ (n + l - 1) / l ≤ n) ∧ n ≤ (n + l - 1) / l * l ∧ ((n + l - 1) / l - 1) * l < n := by
  have h1 := Int.ediv_mul_le (n + l - 1) (b := l) (by omega)
  have h2 := Int.lt_ediv_add_one_mul_self (n + l - 1) (b := l) (by omega)
  have h0 : 0 ≤ (n + l - 1) / l := Int.ediv_nonneg (by omega) (by omega)
  generalize (n + l - 1) / l = c at h0 h1 h2 ⊢
  rw [Int.add_mul, Int.one_mul] at h2
  refine ⟨⟨h0, ?_⟩, by omega, by rw [Int.sub_mul, Int.one_mul]; omega⟩
  refine Decidable.byContradiction fun h => ?_
  have h3 : (n + 1) * l ≤ c * l := Int.mul_le_mul_of_nonneg_right (by omega) (by omega)
  have h4 : n * 1 ≤ n * l := Int.mul_le_mul_of_nonneg_left hl (by omega)
  rw [Int.add_mul, Int.one_mul] at h3
  omega
/-- What takes no longer: a spring that gives more. -/
theorem quo_mono {n h h' : Int} (hn : 0 ≤ n) (h1 : 1 ≤ h') (hh : h' ≤ h) : n / h ≤ n / h' := by
  have a := quo_facts hn (h := h) (by omega)
  refine Int.le_ediv_of_mul_le (by omega) ?_
  have : n / h * h' ≤ n / h * h := Int.mul_le_mul_of_nonneg_left hh a.1.1
  omega
theorem ceil_mono {n l l' : Int} (hn : 1 ≤ n) (h1 : 1 ≤ l') (hl : l' ≤ l) : (n + l - 1) / l ≤ (n + l' - 1) / l' := by
  have a := ceil_facts hn (l := l) (by omega)
  have b := ceil_facts hn h1
  refine Decidable.byContradiction fun h => ?_
  have h2 : (n + l' - 1) / l' * l' ≤ (n + l' - 1) / l' * l := Int.mul_le_mul_of_nonneg_left hl b.1.1
  have h3 : (n + l' - 1) / l' * l ≤ ((n + l - 1) / l - 1) * l := Int.mul_le_mul_of_nonneg_right (by omega) (by omega)
  omega
theorem quo_mono2 {n m h : Int} (h1 : 1 ≤ h) (hm : n ≤ m) : n / h ≤ m / h := Int.ediv_le_ediv (by omega) hm
variable {s : Sp} {k : Nat} {a : Int}
theorem fillE_at (he : toldE s 0 = 0) (hk : k < s.weeks.toNat) (ha : 1 ≤ a ∧ a ≤ 40) : fillE s k a = if givesLo s k = 0 then 6 else 0 := by
  obtain ⟨hv, _, _⟩ := toldE_valid he
  have hH := hv.1; unfold HeadP at hH
  unfold fillE
  rw [if_neg (fun h => h hv), if_neg (fun h => h ⟨by omega, by omega⟩), if_neg (fun h => h ha), if_neg (fun h => h (told_same he hk).1)]
theorem fill_at (he : toldE s 0 = 0) (hk : k < s.weeks.toNat) (ha : 1 ≤ a ∧ a ≤ 40) (hlo : 1 ≤ givesLo s k) : fillLo s k a = 3600 * a / givesHi s k ∧ fillHi s k a = (3600 * a + givesLo s k - 1) / givesLo s k := by
  have h : fillE s k a = 0 := by rw [fillE_at he hk ha, if_neg (by omega)]
  unfold fillLo fillHi
  rw [if_pos h, if_pos h]
  exact ⟨rfl, rfl⟩
theorem fill_facts (he : toldE s 0 = 0) (hk : k < s.weeks.toNat) (ha : 1 ≤ a ∧ a ≤ 40) (hlo : 1 ≤ givesLo s k) :
    (0 ≤ fillLo s k a ∧ fillLo s k a ≤ 144000) ∧ (0 ≤ fillHi s k a ∧ fillHi s k a ≤ 144000) ∧ (fillLo s k a * givesHi s k ≤ 3600 * a ∧ 0 ≤ fillLo s k a * givesHi s k) ∧ (3600 * a < (fillLo s k a + 1) * givesHi s k ∧ (fillLo s k a + 1) * givesHi s k ≤ 144100) ∧
    (3600 * a ≤ fillHi s k a * givesLo s k ∧ fillHi s k a * givesLo s k ≤ 144100) ∧ ((fillHi s k a - 1) * givesLo s k < 3600 * a ∧ -100 ≤ (fillHi s k a - 1) * givesLo s k) := by
  obtain ⟨e1, e2⟩ := fill_at he hk ha hlo
  obtain ⟨g1, g2, g3⟩ := gives_in he hk
  have hH := (toldE_valid he).1.1; unfold HeadP at hH
  rw [e1, e2]
  have A := quo_facts (n := 3600 * a) (by omega) (h := givesHi s k) (by omega)
  have B := ceil_facts (n := 3600 * a) (by omega) hlo
  have C1 : 0 ≤ 3600 * a / givesHi s k * givesHi s k := Int.mul_nonneg A.1.1 (by omega)
  have C2 : (3600 * a / givesHi s k + 1) * givesHi s k = 3600 * a / givesHi s k * givesHi s k + givesHi s k := by rw [Int.add_mul, Int.one_mul]
  have C3 : ((3600 * a + givesLo s k - 1) / givesLo s k - 1) * givesLo s k = (3600 * a + givesLo s k - 1) / givesLo s k * givesLo s k - givesLo s k := by rw [Int.sub_mul, Int.one_mul]
  omega
theorem fill_mono {b : Int} {j : Nat} (he : toldE s 0 = 0) (hkj : k ≤ j) (hj : j < s.weeks.toNat) (ha : 1 ≤ a ∧ a ≤ 40) (hb : 1 ≤ b ∧ b ≤ 40) (hab : a ≤ b) (hlo : 1 ≤ givesLo s j) :
    fillLo s k a ≤ fillLo s j b ∧ fillHi s k a ≤ fillHi s j b := by
  have hk : k < s.weeks.toNat := by omega
  have hm := gives_mono he hkj hj
  obtain ⟨g1, g2, g3⟩ := gives_in he hj
  obtain ⟨e1, e2⟩ := fill_at he hk ha (by omega)
  obtain ⟨e3, e4⟩ := fill_at he hj hb hlo
  rw [e1, e2, e3, e4]
  refine ⟨Int.le_trans (quo_mono (n := 3600 * a) (by omega) (h' := givesHi s j) (by omega) hm.2) (quo_mono2 (by omega) (by omega)), Int.le_trans (ceil_mono (n := 3600 * a) (by omega) hlo hm.1) (quo_mono2 hlo (by omega))⟩
/-! ### the week that tells most -/
theorem leftP_bd (hv : SpP s) {w : Nat} (hw : w < s.weeks.toNat) : 0 ≤ leftP s w ∧ leftP s w ≤ 20000 := leftTo_bd hv hw _ (Nat.le_refl _)
end Go.S

/- Fewer truths: what is told is within what was told. Nothing of Go stands here. -/
namespace Go.S
open Go.X (G)
theorem look_at {s : Sp} (he : toldE s 0 = 0) : lookW s = (lookI s : Nat) ∧ lookV s = leftP s (lookI s) ∧ lookI s < s.weeks.toNat := by
  have hH := (toldE_valid he).1.1; unfold HeadP at hH
  have := amin_le (leftP s) (s.weeks.toNat - 1)
  unfold lookW lookV
  rw [if_pos he, if_pos he]
  exact ⟨rfl, rfl, by show amin _ _ < _; omega⟩
def allTo (s : Sp) : Nat → Int
  | 0 => 0
  | k + 1 => allTo s k + (givesHi s k - givesLo s k)
theorem allTo_bd {s : Sp} (he : toldE s 0 = 0) : ∀ k, k ≤ s.weeks.toNat → 0 ≤ allTo s k ∧ allTo s k ≤ 100 * (k : Int)
  | 0, _ => by simp [allTo]
  | k + 1, hk => by
    have ih := allTo_bd he k (by omega)
    have hin := gives_in he (k := k) (by omega)
    have hH := (toldE_valid he).1.1; unfold HeadP at hH
    simp only [allTo]
    omega
/-- What is told of a week: within it each truth. -/
theorem hull_in {s : Sp} (hv : SpP s) {L : List Int} (hL : L.length = 20) {r : Int} (hr : Wi r s.w0 s.w1) {t : Nat → Int} (h : Tl s L r t) {k : Nat} (hk : k < s.weeks.toNat) :
    hLo (lvsL s L (rnsL s L)) k ≤ t k ∧ t k ≤ hHi (lvsL s L (rnsL s L)) k := by
  have hb := lv_bool hv hL h
  have hm : r ∈ rnsL s L := mem_rnsL.2 ⟨hr, hb⟩
  obtain ⟨i, hi, e⟩ := List.getElem_of_mem hm
  have hi2 : i < (lvsL s L (rnsL s L)).length := by simpa [lvsL] using hi
  have e2 : (lvsL s L (rnsL s L)).getD i [] = lvL s L r := by
    rw [List.getD_eq_getElem?_getD, List.getElem?_eq_getElem hi2]; simp [lvsL, e]
  have h1 := (hLo_le (A := lvsL s L (rnsL s L)) (w := k) (lvsL s L (rnsL s L)).length).1 i hi2
  have h2 := (hLo_le (A := lvsL s L (rnsL s L)) (w := k) (lvsL s L (rnsL s L)).length).2 i hi2
  have h3 := lv_in hv hL h k hk
  rw [e2] at h1 h2
  unfold hLo hHi
  omega
/-- .. and its ends come about. -/
theorem hull_at {s : Sp} (hv : SpP s) {L : List Int} (hL : L.length = 20) (hne : rnsL s L ≠ []) (k : Nat) :
    (∃ r t, Wi r s.w0 s.w1 ∧ Tl s L r t ∧ t k = hLo (lvsL s L (rnsL s L)) k) ∧ (∃ r t, Wi r s.w0 s.w1 ∧ Tl s L r t ∧ t k = hHi (lvsL s L (rnsL s L)) k) := by
  have hA : 0 < (lvsL s L (rnsL s L)).length := by simpa [lvsL] using List.length_pos_iff.2 hne
  obtain ⟨⟨i, hi, e1⟩, ⟨j, hj, e2⟩⟩ := hLo_ex (w := k) hA (lvsL s L (rnsL s L)).length (Nat.le_refl _)
  have key : ∀ i, i < (lvsL s L (rnsL s L)).length → ∃ r, Wi r s.w0 s.w1 ∧ Tl s L r (fun w => G ((lvsL s L (rnsL s L)).getD i []) w) ∧ Tl s L r (fun w => G ((lvsL s L (rnsL s L)).getD i []) (10 + w)) := fun i hi => by
    obtain ⟨r, hr, e⟩ := List.mem_map.1 (getD_mem hi)
    obtain ⟨h1, h2⟩ := mem_rnsL.1 hr
    have := lv_ends hv hL h2
    rw [e] at this
    exact ⟨r, h1, this⟩
  obtain ⟨r1, a1, b1, _⟩ := key i hi
  obtain ⟨r2, a2, _, c2⟩ := key j hj
  exact ⟨⟨r1, _, a1, b1, e1.symm⟩, ⟨r2, _, a2, c2, e2.symm⟩⟩
/-- Where the truths are fewer. -/
theorem hull_sub {s s' : Sp} (hv : SpP s) (hv' : SpP s') {L L' : List Int} (hL : L.length = 20) (hL' : L'.length = 20) (hne : rnsL s' L' ≠ [])
    (hsub : ∀ r t, Wi r s'.w0 s'.w1 → Tl s' L' r t → Wi r s.w0 s.w1 ∧ Tl s L r t) {k : Nat} (hk : k < s.weeks.toNat) :
    hLo (lvsL s L (rnsL s L)) k ≤ hLo (lvsL s' L' (rnsL s' L')) k ∧ hHi (lvsL s' L' (rnsL s' L')) k ≤ hHi (lvsL s L (rnsL s L)) k := by
  obtain ⟨⟨r1, t1, a1, b1, e1⟩, ⟨r2, t2, a2, b2, e2⟩⟩ := hull_at hv' hL' hne k
  obtain ⟨c1, d1⟩ := hsub _ _ a1 b1
  obtain ⟨c2, d2⟩ := hsub _ _ a2 b2
  have h1 := hull_in hv hL c1 d1 hk
  have h2 := hull_in hv hL c2 d2 hk
  omega
theorem oneW_at {L : List Int} (hL : L.length = 20) {w : Nat} (hw : w < 10) (n : Int) (k : Nat) (hk : k < 10) : G (oneW L w n) k = (if k = w then n else G L k) ∧ G (oneW L w n) (10 + k) = (if k = w then n else G L (10 + k)) := by
  unfold oneW
  constructor
  · rw [Go.X.G, List.getD_eq_getElem?_getD, List.getElem?_set, if_neg (by omega), List.getElem?_set]
    by_cases h : w = k
    · rw [if_pos h, if_pos (by omega), if_pos h.symm]; rfl
    · rw [if_neg h, if_neg (fun e => h e.symm), ← List.getD_eq_getElem?_getD]
  · rw [Go.X.G, List.getD_eq_getElem?_getD, List.getElem?_set]
    by_cases h : w = k
    · rw [if_pos (by omega), if_pos (by simp; omega), if_pos h.symm]; rfl
    · rw [if_neg (by omega), List.getElem?_set, if_neg (by omega), if_neg (fun e => h e.symm), ← List.getD_eq_getElem?_getD]
theorem widTo_le {A B : List (List Int)} : ∀ n, (∀ k, k < n → hLo B k ≤ hLo A k ∧ hHi A k ≤ hHi B k) → widTo A n ≤ widTo B n
  | 0, _ => Int.le_refl _
  | n + 1, h => by
    have ih := widTo_le (A := A) (B := B) n fun k hk => h k (by omega)
    have := h n (by omega)
    simp only [widTo]
    omega
theorem allTo_wid {s : Sp} (he : toldE s 0 = 0) : ∀ n, n ≤ s.weeks.toNat → allTo s n = widTo (toldA s 0) n
  | 0, _ => rfl
  | n + 1, h => by
    obtain ⟨e1, e2⟩ := gives_at he (k := n) (by omega)
    simp only [allTo, widTo, allTo_wid he n (by omega), e1, e2]
theorem wide_le {s : Sp} (hv : SpP s) (ht : TrueP s) {w : Nat} (hw : w < s.weeks.toNat) {n : Int} (hn : G (baseL s) w ≤ n ∧ n ≤ G (baseL s) (10 + w)) : wideP s (oneW (baseL s) w n) ≤ allTo s s.weeks.toNat := by
  have hH := hv.1; unfold HeadP at hH
  have he : toldE s 0 = 0 := toldE_ok hv ⟨by omega, by omega⟩ ht
  have hb := allTo_bd he s.weeks.toNat (Nat.le_refl _)
  unfold wideP
  split
  · omega
  · rename_i hne
    rw [allTo_wid he _ (Nat.le_refl _)]
    refine widTo_le _ fun k hk => ?_
    have hA : toldA s 0 = lvsL s (baseL s) (rnsL s (baseL s)) := by rw [toldA, toldL_ok he]
    rw [hA]
    refine hull_sub hv hv (base_len hv) (by simp [oneW, base_len hv]) hne (fun r t hr h => ⟨hr, fun j hj => ?_⟩) hk
    have h1 := h j hj
    obtain ⟨o1, o2⟩ := oneW_at (base_len hv) (w := w) (by omega) n j (by omega)
    rw [o1, o2] at h1
    refine ⟨?_, h1.2⟩
    have h2 := h1.1
    by_cases hjw : j = w
    · subst hjw
      rw [if_pos rfl, if_pos rfl] at h2
      omega
    · rwa [if_neg hjw, if_neg hjw] at h2
theorem leftTo_le {s : Sp} (hv : SpP s) (ht : TrueP s) {w : Nat} (hw : w < s.weeks.toNat) : ∀ k, k ≤ leftN s w → leftTo s w k ≤ allTo s s.weeks.toNat
  | 0, _ => by
    have hH := hv.1; unfold HeadP at hH
    exact (allTo_bd (toldE_ok hv ⟨by omega, by omega⟩ ht) s.weeks.toNat (Nat.le_refl _)).1
  | k + 1, hk => by
    have ih := leftTo_le hv ht hw k (by omega)
    have hN : leftN s w = (G (baseL s) (10 + w) + 1 - G (baseL s) w).toNat := rfl
    have := wide_le hv ht hw (n := G (baseL s) w + k) (by omega)
    simp only [leftTo]
    omega
theorem look_all {s : Sp} (hv : SpP s) (ht : TrueP s) : leftP s (lookI s) ≤ allTo s s.weeks.toNat := by
  have hH := hv.1; unfold HeadP at hH
  exact leftTo_le hv ht (look_at (toldE_ok hv ⟨by omega, by omega⟩ ht)).2.2 _ (Nat.le_refl _)
end Go.S

/- The calculus' rules: conversions between integers, shifts, bits. Nothing of the program stands here. -/
namespace Go.X
open Go Go.RowKit
def cvP (P : Program) (src dst : TypeId) (k : IntKind) : Bool := match P.underlying src, P.underlying dst with | some _, some (.int j) => decide (j = k) | _, _ => false
theorem run_cv {P : Program} {w : World} {src dst : TypeId} {k k2 : IntKind} {n : Int} (h : cvP P src dst k2 = true) : (convert src dst (.int k n)).run P w = .ok (.int k2 (k2.wrap n)) w := by
  unfold cvP at h
  split at h
  · rename_i u j h1 h2
    obtain rfl := of_decide_eq_true h
    simp [convert, run_underlying h1, run_underlying h2, Conv.intToInt]
  · cases h
section
variable {C : Cx} {Q : Post} {env : Env} {own : Own} {D : List Deferred} {ops : Array Oper} {rest : List Oper}
variable {d : Nat} {ty : TypeId} {pos : String} {aft : Array Edge} {g : Option (Nat × Bool)} {x y : Operand} {T T' : TypeId} {A B : Int} {k : IntKind}
theorem SXL.cv (hT : cvP C.P T T' .i64 = true) (hx : ev env x = some (.int k A)) (hb : -9223372036854775808 ≤ A ∧ A ≤ 9223372036854775807)
    (h : SXL C ops rest Q ⟨(d, .int .i64 A) :: env, own, D⟩) (hd : Nat.blt d C.n = true := by rfl) (hw : Wanted ops g env = some true := by rfl) :
    SXL C ops ({ dst := some d, op := .convert T T' x, type := ty, pos, after := aft, guard := g } :: rest) Q ⟨env, own, D⟩ :=
  SXL.val rfl hd hw (fun _ e => by cases e) (fun a w ha _ => by
    simp only [execOp, ha.eval hx]
    exact run_val (by rw [run_cv hT, IntWalk.i64_in _ hb])) h
theorem SXL.shr {j : IntKind} (hx : ev env x = some (.int k A)) (hy : ev env y = some (.int j B)) (hb : 0 ≤ B)
    (h : SXL C ops rest Q ⟨(d, .int k (A.fdiv (2 ^ (Min.min B.toNat k.bits)))) :: env, own, D⟩) (hd : Nat.blt d C.n = true := by rfl) (hw : Wanted ops g env = some true := by rfl) :
    SXL C ops ({ dst := some d, op := .binOp .shr T x y T', type := ty, pos, after := aft, guard := g } :: rest) Q ⟨env, own, D⟩ :=
  SXL.bin hx hy (r := .int k (A.fdiv (2 ^ (Min.min B.toNat k.bits)))) (fun w => by
    show (Op.shift .shr k A j B).run C.P w = _
    unfold Op.shift
    rw [if_neg (by omega)]; rfl) hd hw h
theorem SXL.and (hx : ev env x = some (.int k A)) (hy : ev env y = some (.int k B))
    (h : SXL C ops rest Q ⟨(d, .int k (k.wrap ((BitVec.ofInt k.bits A &&& BitVec.ofInt k.bits B).toNat))) :: env, own, D⟩) (hd : Nat.blt d C.n = true := by rfl) (hw : Wanted ops g env = some true := by rfl) :
    SXL C ops ({ dst := some d, op := .binOp .and T x y T', type := ty, pos, after := aft, guard := g } :: rest) Q ⟨env, own, D⟩ :=
  SXL.bin hx hy (r := .int k (k.wrap ((BitVec.ofInt k.bits A &&& BitVec.ofInt k.bits B).toNat))) (fun w => by
    have e : (do eqGuard .and T x y (.int k A) (.int k B); binOp .and T (.int k A) (.int k B) : Sem Value) = Op.intBits .and k A B := by
      simp [eqGuard, binOp]
    rw [e]; rfl) hd hw h
/-- .. of which the result has a name. -/
theorem SXL.remE {R : Int} (hx : ev env x = some (.int .i64 A)) (hy : ev env y = some (.int .i64 B)) (hb : 0 ≤ A ∧ 1 ≤ B) (hR : A % B = R)
    (h : SXL C ops rest Q ⟨(d, .int .i64 R) :: env, own, D⟩) (hd : Nat.blt d C.n = true := by rfl) (hw : Wanted ops g env = some true := by rfl) :
    SXL C ops ({ dst := some d, op := .binOp .rem T x y T', type := ty, pos, after := aft, guard := g } :: rest) Q ⟨env, own, D⟩ := by
  subst hR; exact SXL.rem hx hy hb h hd hw
theorem SXL.minE {R : Int} {ats : Array TypeId} (hx : ev env x = some (.int .i64 A)) (hy : ev env y = some (.int .i64 B)) (hR : Min.min A B = R)
    (h : SXL C ops rest Q ⟨(d, .int .i64 R) :: env, own, D⟩) (hd : Nat.blt d C.n = true := by rfl) (hw : Wanted ops g env = some true := by rfl) :
    SXL C ops ({ dst := some d, op := .call { callee := .builtin .min, args := #[x, y], argTypes := ats }, type := ty, pos, after := aft, guard := g } :: rest) Q ⟨env, own, D⟩ := by
  subst hR; exact SXL.min hx hy h hd hw
theorem SXL.maxE {R : Int} {ats : Array TypeId} (hx : ev env x = some (.int .i64 A)) (hy : ev env y = some (.int .i64 B)) (hR : Max.max A B = R)
    (h : SXL C ops rest Q ⟨(d, .int .i64 R) :: env, own, D⟩) (hd : Nat.blt d C.n = true := by rfl) (hw : Wanted ops g env = some true := by rfl) :
    SXL C ops ({ dst := some d, op := .call { callee := .builtin .max, args := #[x, y], argTypes := ats }, type := ty, pos, after := aft, guard := g } :: rest) Q ⟨env, own, D⟩ := by
  subst hR; exact SXL.max hx hy h hd hw
end
end Go.X

/- SpringFill, SpringLook: the walks. -/
namespace Go.Proofs.YtknflipongbngaaDoor
open Go.X Go.S Go.RowKit
theorem cv_5_3 : cvP Tryd.prog 5 3 .i64 = true := by kernel_rfl
set_option maxHeartbeats 4000000 in
theorem fill_law (s : Sp) (bo ro : Option Addr) (bc rc : Nat) (which one other : Int) (hw1 : 0 ≤ which ∧ which ≤ 255) (hw2 : 0 ≤ one ∧ one ≤ 255) (hw3 : 0 ≤ other ∧ other ≤ 255) (w : World) (hg : Gl w) (hs : SpAt w s bo ro) :
    CallsR Tryd.prog 11 [.agg ⟨[.int .i64 s.weeks, .int .i64 s.most, .int .i64 s.fall, .int .i64 s.a0, .int .i64 s.a1, .int .i64 s.w0, .int .i64 s.w1, (.slice bo s.book.length bc), (.slice ro s.reads.length rc)]⟩, .int .u8 which, .int .u8 one, .int .u8 other] w (fun v _ => v = .bool true) := by
  refine CallsR.of_SX (n := 209) (rs := [.tmp 8]) Tryd.func11 rfl rfl rfl rfl ?_
  show SX _ _ _ ⟨[(0, .agg ⟨[.int .i64 s.weeks, .int .i64 s.most, .int .i64 s.fall, .int .i64 s.a0, .int .i64 s.a1, .int .i64 s.w0, .int .i64 s.w1, (.slice bo s.book.length bc), (.slice ro s.reads.length rc)]⟩), (1, .int .u8 which), (2, .int .u8 one), (3, .int .u8 other)], [], []⟩
  refine SX.seq ?_
  refine SX.region ?_
  refine SXL.box rfl rfl ?_; intro b0
  refine SXL.assign rfl ?_
  refine SXL.nil ?_
  refine thenQ.normal ?_
  refine SX.seq ?_
  refine SX.region ?_
  refine SXL.call1 (.bool (decide (True))) fn_54 rfl (fun w hI => (alive_any w (hg.inv hI)).eqv rfl) ?_
  refine SXL.assign rfl ?_
  refine SXL.nil ?_
  refine thenQ.normal ?_
  refine SX.seq ?_
  refine SX.seq ?_
  refine SX.region ?_
  refine SXL.loadNo 0 sh_27 rfl rfl rfl ?_
  refine SXL.call1 (.bool (decide (¬((30 : Int) < (s.book.length : Int) ∨ (30 : Int) < (s.reads.length : Int)) ∧ SpP s))) fn_55 rfl (fun w hI => ready_any s bo ro bc rc _ (hs.inv hI)) ?_
  refine SXL.not rfl ?_
  refine SXL.move rfl ?_
  apply SXL.orG 3
  case hl => exact rfl
  case hd => exact rfl
  case hg => exact rfl
  case ht =>
    intro gr
    refine SXL.pass rfl rfl rfl ?_
    refine SXL.pass rfl rfl rfl ?_
    refine SXL.pass rfl rfl rfl ?_
    exact SXL.nil (segQ.mk (.skip rfl (.skip rfl (.skip rfl (.skip rfl (EnvSub.refl _))))) rfl rfl rfl)
  case hf =>
    intro gr
    have gv := (Decidable.not_not.1 gr).2
    refine SXL.loadNo 0 sh_27 rfl rfl rfl ?_
    refine SXL.call1 (.bool (decide (TrueP s))) fn_60 rfl (fun w hI => true_any s bo ro bc rc gv _ (hs.inv hI)) ?_
    refine SXL.not rfl ?_
    exact SXL.nil (segQ.mk (.skip rfl (.skip rfl (.skip rfl (.skip rfl (EnvSub.refl _))))) rfl rfl ⟨rfl, rfl⟩)
  refine SXL.move rfl ?_
  apply SXL.orG 2
  case hl => exact rfl
  case hd => exact rfl
  case hg => exact rfl
  case ht =>
    intro c34
    refine SXL.pass rfl rfl rfl ?_
    refine SXL.pass rfl rfl rfl ?_
    exact SXL.nil (segQ.mk (.skip rfl (.skip rfl (.skip rfl (EnvSub.refl _)))) rfl rfl rfl)
  case hf =>
    intro c34
    refine SXL.move rfl ?_
    refine SXL.not rfl ?_
    exact SXL.nil (segQ.mk (.skip rfl (.skip rfl (.skip rfl (EnvSub.refl _)))) rfl rfl ⟨rfl, rfl⟩)
  refine SXL.nil ?_
  refine thenQ.normal ?_
  refine SX.condP rfl (fun c34 => ?_) (fun c34 => ?_)
  · refine SX.seq ?_
    refine SX.region ?_
    refine SXL.move rfl ?_
    refine SXL.assign rfl ?_
    refine SXL.nil ?_
    refine thenQ.normal ?_
    refine SX.ret ?_
    refine thenQ.ret ?_
    refine retQ.dead [] rfl ?_
    refine retQ.one (ResAt.tmp rfl) ?_
    first | rfl | exact congrArg Value.bool (decide_eq_true trivial)
  · refine SX.skip ?_
    refine thenQ.normal ?_
    refine SX.seq ?_
    have hpre : (¬((30 : Int) < (s.book.length : Int) ∨ (30 : Int) < (s.reads.length : Int)) ∧ SpP s) ∧ TrueP s := by
          by_cases h1 : ¬((30 : Int) < (s.book.length : Int) ∨ (30 : Int) < (s.reads.length : Int)) ∧ SpP s
          · by_cases h2 : TrueP s
            · exact ⟨h1, h2⟩
            · exact absurd (by first | exact .inl (.inr h2) | exact .inr h2) c34
          · exact absurd (by first | exact .inl (.inl h1) | exact .inl h1 | exact h1) c34
    obtain ⟨⟨hgr, hv⟩, ht⟩ := hpre
    have hH := hv.1
    unfold HeadP at hH
    have hTo : toldE s 0 = 0 := toldE_ok hv ⟨by omega, by omega⟩ ht
    obtain ⟨k, hkw⟩ : ∃ k : Nat, which % s.weeks = k := ⟨(which % s.weeks).toNat, (Int.toNat_of_nonneg (Int.emod_nonneg _ (by omega))).symm⟩
    have hk : k < s.weeks.toNat := by have := Int.emod_lt_of_pos which (b := s.weeks) (by omega); omega
    refine SX.region ?_
    refine SXL.move rfl ?_
    refine SXL.cv cv_5_3 rfl (by omega) ?_
    refine SXL.fieldAddr fp_27_0 rfl ?_
    refine SXL.load1o 0 sh_3 rfl rfl rfl ?_
    refine SXL.remE rfl rfl (by omega) hkw ?_
    refine SXL.assign rfl ?_
    refine SXL.nil ?_
    refine thenQ.normal ?_
    refine SX.seq ?_
    refine SX.region ?_
    refine SXL.move rfl ?_
    refine SXL.cv cv_5_3 rfl (by omega) ?_
    refine SXL.rem rfl rfl (by omega) ?_
    refine SXL.add rfl rfl (by omega) ?_
    refine SXL.move rfl ?_
    refine SXL.cv cv_5_3 rfl (by omega) ?_
    refine SXL.rem rfl rfl (by omega) ?_
    refine SXL.add rfl rfl (by omega) ?_
    refine SXL.assign rfl ?_
    refine SXL.assign rfl ?_
    refine SXL.nil ?_
    refine thenQ.normal ?_
    refine SX.seq ?_
    obtain ⟨a, ha⟩ : ∃ a, Min.min (1 + one % 40) (1 + other % 40) = a := ⟨_, rfl⟩
    obtain ⟨b, hb⟩ : ∃ b, Max.max (1 + one % 40) (1 + other % 40) = b := ⟨_, rfl⟩
    have hab : 1 ≤ a ∧ a ≤ 40 := by omega
    have hbb : 1 ≤ b ∧ b ≤ 40 := by omega
    have hle : a ≤ b := by omega
    refine SX.region ?_
    refine SXL.move rfl ?_
    refine SXL.move rfl ?_
    refine SXL.minE rfl rfl ha ?_
    refine SXL.move rfl ?_
    refine SXL.move rfl ?_
    refine SXL.maxE rfl rfl hb ?_
    refine SXL.assign rfl ?_
    refine SXL.assign rfl ?_
    refine SXL.nil ?_
    refine thenQ.normal ?_
    refine SX.seq ?_
    refine SX.region ?_
    refine SXL.loadNo 0 sh_27 rfl rfl rfl ?_
    refine SXL.move rfl ?_
    refine SXL.call1 (.tuple ⟨[.agg ⟨[.int .i64 ((givesLo s (k : Int))), .int .i64 ((givesHi s (k : Int)))]⟩, .int .i64 (toldE s (k : Int))]⟩) fn_22 rfl (fun w hI => sgives_any s bo ro bc rc (k : Int) (by omega) (by omega) _ (hg.inv hI) (hs.inv hI)) ?_
    refine SXL.move rfl ?_
    refine SXL.extract rfl rfl ?_
    refine SXL.extract rfl rfl ?_
    refine SXL.alloc zp_23 ?_; intro b1
    refine SXL.store 1 sz_23 rfl rfl rfl rfl rfl rfl ?_
    refine SXL.assign rfl ?_
    refine SXL.nil ?_
    refine thenQ.normal ?_
    refine SX.seq ?_
    refine SX.region ?_
    refine SXL.loadNo 0 sh_27 rfl rfl rfl ?_
    refine SXL.move rfl ?_
    refine SXL.move rfl ?_
    refine SXL.call1 (.tuple ⟨[.agg ⟨[.int .i64 ((fillLo s (k : Int) a)), .int .i64 ((fillHi s (k : Int) a))]⟩, .int .i64 (fillE s (k : Int) a)]⟩) fn_50 rfl (fun w hI => sfill_any s bo ro bc rc (k : Int) a (by omega) (by omega) _ (hg.inv hI) (hs.inv hI)) ?_
    refine SXL.move rfl ?_
    refine SXL.extract rfl rfl ?_
    refine SXL.extract rfl rfl ?_
    refine SXL.alloc zp_23 ?_; intro b2
    refine SXL.store 2 sz_23 rfl rfl rfl rfl rfl rfl ?_
    refine SXL.assign rfl ?_
    refine SXL.nil ?_
    refine thenQ.normal ?_
    refine SX.seq ?_
    refine SX.region ?_
    refine SXL.loadNo 0 sh_27 rfl rfl rfl ?_
    refine SXL.move rfl ?_
    refine SXL.move rfl ?_
    refine SXL.call1 (.tuple ⟨[.agg ⟨[.int .i64 ((fillLo s (k : Int) b)), .int .i64 ((fillHi s (k : Int) b))]⟩, .int .i64 (fillE s (k : Int) b)]⟩) fn_50 rfl (fun w hI => sfill_any s bo ro bc rc (k : Int) b (by omega) (by omega) _ (hg.inv hI) (hs.inv hI)) ?_
    refine SXL.move rfl ?_
    refine SXL.extract rfl rfl ?_
    refine SXL.extract rfl rfl ?_
    refine SXL.alloc zp_23 ?_; intro b3
    refine SXL.store 3 sz_23 rfl rfl rfl rfl rfl rfl ?_
    refine SXL.assign rfl ?_
    refine SXL.nil ?_
    refine thenQ.normal ?_
    refine SX.seq ?_
    refine SX.seq ?_
    have hek := (told_same hTo hk).1
    have hf1 := fillE_at hTo hk hab
    have hf2 := fillE_at hTo hk hbb
    have hin := gives_in hTo hk
    refine SX.region ?_
    refine SXL.move rfl ?_
    refine SXL.neqI rfl rfl ?_
    refine SXL.move rfl ?_
    apply SXL.orG 3
    case hl => exact rfl
    case hd => exact rfl
    case hg => exact rfl
    case ht =>
      intro g4
      refine SXL.pass rfl rfl rfl ?_
      refine SXL.pass rfl rfl rfl ?_
      refine SXL.pass rfl rfl rfl ?_
      exact SXL.nil (segQ.mk (.skip rfl (.skip rfl (.skip rfl (.skip rfl (EnvSub.refl _))))) rfl rfl rfl)
    case hf =>
      intro g4
      refine SXL.move rfl ?_
      refine SXL.move rfl ?_
      refine SXL.neqI rfl rfl ?_
      exact SXL.nil (segQ.mk (.skip rfl (.skip rfl (.skip rfl (.skip rfl (EnvSub.refl _))))) rfl rfl ⟨rfl, rfl⟩)
    refine SXL.move rfl ?_
    apply SXL.orG 6
    case hl => exact rfl
    case hd => exact rfl
    case hg => exact rfl
    case ht =>
      intro c89
      refine SXL.pass rfl rfl rfl ?_
      refine SXL.pass rfl rfl rfl ?_
      refine SXL.pass rfl rfl rfl ?_
      refine SXL.pass rfl rfl rfl ?_
      refine SXL.pass rfl rfl rfl ?_
      refine SXL.pass rfl rfl rfl ?_
      exact SXL.nil (segQ.mk (.skip rfl (.skip rfl (.skip rfl (.skip rfl (.skip rfl (.skip rfl (.skip rfl (EnvSub.refl _)))))))) rfl rfl rfl)
    case hf =>
      intro c89
      refine SXL.move rfl ?_
      refine SXL.eqlI rfl rfl ?_
      refine SXL.fieldAddr fp_23_0 rfl ?_
      refine SXL.load1o 1 sh_3 rfl rfl rfl ?_
      refine SXL.eqlI rfl rfl ?_
      refine SXL.neqB (by kernel_rfl) rfl rfl ?_
      exact SXL.nil (segQ.mk (.skip rfl (.skip rfl (.skip rfl (.skip rfl (.skip rfl (.skip rfl (.skip rfl (EnvSub.refl _)))))))) rfl rfl ⟨rfl, rfl⟩)
    refine SXL.nil ?_
    refine thenQ.normal ?_
    refine SX.condP rfl (fun c89 => ?_) (fun c89 => ?_)
    · exfalso; split at hf1 <;> split at hf2 <;> omega
    refine SX.skip ?_
    refine thenQ.normal ?_
    refine SX.seq ?_
    refine SX.seq ?_
    refine SX.region ?_
    refine SXL.move rfl ?_
    refine SXL.neqI rfl rfl ?_
    refine SXL.nil ?_
    refine thenQ.normal ?_
    refine SX.condP rfl (fun c91 => ?_) (fun c91 => ?_)
    · refine SX.seq ?_
      refine SX.region ?_
      refine SXL.move rfl ?_
      refine SXL.move rfl ?_
      apply SXL.andG 2
      case hl => exact rfl
      case hd => exact rfl
      case hg => exact rfl
      case ht =>
        intro g8
        refine SXL.move rfl ?_
        refine SXL.eqlI rfl rfl ?_
        exact SXL.nil (segQ.mk (.skip rfl (.skip rfl (.skip rfl (EnvSub.refl _)))) rfl rfl ⟨rfl, rfl⟩)
      case hf =>
        intro g8
        refine SXL.pass rfl rfl rfl ?_
        refine SXL.pass rfl rfl rfl ?_
        exact SXL.nil (segQ.mk (.skip rfl (.skip rfl (.skip rfl (EnvSub.refl _)))) rfl rfl rfl)
      refine SXL.assign rfl ?_
      refine SXL.nil ?_
      refine thenQ.normal ?_
      refine SX.ret ?_
      refine thenQ.ret ?_
      refine retQ.dead [] rfl ?_
      refine retQ.one (ResAt.tmp rfl) ?_
      refine congrArg Value.bool (decide_eq_true ?_); split at hf1 <;> first | exact ⟨trivial, hf1⟩ | exact absurd hf1 c91
    · refine SX.skip ?_
      refine thenQ.normal ?_
      refine SX.seq ?_
      refine SX.seq ?_
      have hlo : 1 ≤ givesLo s k := by split at hf1 <;> omega
      obtain ⟨x1, x2, x3, x4, x5, x6⟩ := fill_facts hTo hk hab hlo
      have x7 := fill_mono hTo (Nat.le_refl k) hk hab hbb hle hlo
      refine SX.region ?_
      refine SXL.fieldAddr fp_23_0 rfl ?_
      refine SXL.load1o 2 sh_3 rfl rfl rfl ?_
      refine SXL.lss rfl rfl ?_
      refine SXL.move rfl ?_
      apply SXL.orG 3
      case hl => exact rfl
      case hd => exact rfl
      case hg => exact rfl
      case ht =>
        intro g9
        refine SXL.pass rfl rfl rfl ?_
        refine SXL.pass rfl rfl rfl ?_
        refine SXL.pass rfl rfl rfl ?_
        exact SXL.nil (segQ.mk (.skip rfl (.skip rfl (.skip rfl (.skip rfl (EnvSub.refl _))))) rfl rfl rfl)
      case hf =>
        intro g9
        refine SXL.fieldAddr fp_23_1 rfl ?_
        refine SXL.load1o 2 sh_3 rfl rfl rfl ?_
        refine SXL.gtr rfl rfl ?_
        exact SXL.nil (segQ.mk (.skip rfl (.skip rfl (.skip rfl (.skip rfl (EnvSub.refl _))))) rfl rfl ⟨rfl, rfl⟩)
      refine SXL.move rfl ?_
      apply SXL.orG 3
      case hl => exact rfl
      case hd => exact rfl
      case hg => exact rfl
      case ht =>
        intro g10
        refine SXL.pass rfl rfl rfl ?_
        refine SXL.pass rfl rfl rfl ?_
        refine SXL.pass rfl rfl rfl ?_
        exact SXL.nil (segQ.mk (.skip rfl (.skip rfl (.skip rfl (.skip rfl (EnvSub.refl _))))) rfl rfl rfl)
      case hf =>
        intro g10
        refine SXL.fieldAddr fp_23_0 rfl ?_
        refine SXL.load1o 1 sh_3 rfl rfl rfl ?_
        refine SXL.lss rfl rfl ?_
        exact SXL.nil (segQ.mk (.skip rfl (.skip rfl (.skip rfl (.skip rfl (EnvSub.refl _))))) rfl rfl ⟨rfl, rfl⟩)
      refine SXL.move rfl ?_
      apply SXL.orG 5
      case hl => exact rfl
      case hd => exact rfl
      case hg => exact rfl
      case ht =>
        intro g11
        refine SXL.pass rfl rfl rfl ?_
        refine SXL.pass rfl rfl rfl ?_
        refine SXL.pass rfl rfl rfl ?_
        refine SXL.pass rfl rfl rfl ?_
        refine SXL.pass rfl rfl rfl ?_
        exact SXL.nil (segQ.mk (.skip rfl (.skip rfl (.skip rfl (.skip rfl (.skip rfl (.skip rfl (EnvSub.refl _))))))) rfl rfl rfl)
      case hf =>
        intro g11
        refine SXL.fieldAddr fp_23_1 rfl ?_
        refine SXL.load1o 1 sh_3 rfl rfl rfl ?_
        refine SXL.fieldAddr fp_27_1 rfl ?_
        refine SXL.load1o 0 sh_3 rfl rfl rfl ?_
        refine SXL.gtr rfl rfl ?_
        exact SXL.nil (segQ.mk (.skip rfl (.skip rfl (.skip rfl (.skip rfl (.skip rfl (.skip rfl (EnvSub.refl _))))))) rfl rfl ⟨rfl, rfl⟩)
      refine SXL.move rfl ?_
      apply SXL.orG 8
      case hl => exact rfl
      case hd => exact rfl
      case hg => exact rfl
      case ht =>
        intro g12
        refine SXL.pass rfl rfl rfl ?_
        refine SXL.pass rfl rfl rfl ?_
        refine SXL.pass rfl rfl rfl ?_
        refine SXL.pass rfl rfl rfl ?_
        refine SXL.pass rfl rfl rfl ?_
        refine SXL.pass rfl rfl rfl ?_
        refine SXL.pass rfl rfl rfl ?_
        refine SXL.pass rfl rfl rfl ?_
        exact SXL.nil (segQ.mk (.skip rfl (.skip rfl (.skip rfl (.skip rfl (.skip rfl (.skip rfl (.skip rfl (.skip rfl (.skip rfl (EnvSub.refl _)))))))))) rfl rfl rfl)
      case hf =>
        intro g12
        refine SXL.fieldAddr fp_23_0 rfl ?_
        refine SXL.load1o 2 sh_3 rfl rfl rfl ?_
        refine SXL.fieldAddr fp_23_1 rfl ?_
        refine SXL.load1o 1 sh_3 rfl rfl rfl ?_
        refine SXL.mul rfl rfl (by omega) ?_
        refine SXL.move rfl ?_
        refine SXL.mul rfl rfl (by omega) ?_
        refine SXL.gtr rfl rfl ?_
        exact SXL.nil (segQ.mk (.skip rfl (.skip rfl (.skip rfl (.skip rfl (.skip rfl (.skip rfl (.skip rfl (.skip rfl (.skip rfl (EnvSub.refl _)))))))))) rfl rfl ⟨rfl, rfl⟩)
      refine SXL.move rfl ?_
      apply SXL.orG 9
      case hl => exact rfl
      case hd => exact rfl
      case hg => exact rfl
      case ht =>
        intro g13
        refine SXL.pass rfl rfl rfl ?_
        refine SXL.pass rfl rfl rfl ?_
        refine SXL.pass rfl rfl rfl ?_
        refine SXL.pass rfl rfl rfl ?_
        refine SXL.pass rfl rfl rfl ?_
        refine SXL.pass rfl rfl rfl ?_
        refine SXL.pass rfl rfl rfl ?_
        refine SXL.pass rfl rfl rfl ?_
        refine SXL.pass rfl rfl rfl ?_
        exact SXL.nil (segQ.mk (.skip rfl (.skip rfl (.skip rfl (.skip rfl (.skip rfl (.skip rfl (.skip rfl (.skip rfl (.skip rfl (.skip rfl (EnvSub.refl _))))))))))) rfl rfl rfl)
      case hf =>
        intro g13
        refine SXL.fieldAddr fp_23_0 rfl ?_
        refine SXL.load1o 2 sh_3 rfl rfl rfl ?_
        refine SXL.add rfl rfl (by omega) ?_
        refine SXL.fieldAddr fp_23_1 rfl ?_
        refine SXL.load1o 1 sh_3 rfl rfl rfl ?_
        refine SXL.mul rfl rfl (by omega) ?_
        refine SXL.move rfl ?_
        refine SXL.mul rfl rfl (by omega) ?_
        refine SXL.leq rfl rfl ?_
        exact SXL.nil (segQ.mk (.skip rfl (.skip rfl (.skip rfl (.skip rfl (.skip rfl (.skip rfl (.skip rfl (.skip rfl (.skip rfl (.skip rfl (EnvSub.refl _))))))))))) rfl rfl ⟨rfl, rfl⟩)
      refine SXL.move rfl ?_
      apply SXL.orG 8
      case hl => exact rfl
      case hd => exact rfl
      case hg => exact rfl
      case ht =>
        intro g14
        refine SXL.pass rfl rfl rfl ?_
        refine SXL.pass rfl rfl rfl ?_
        refine SXL.pass rfl rfl rfl ?_
        refine SXL.pass rfl rfl rfl ?_
        refine SXL.pass rfl rfl rfl ?_
        refine SXL.pass rfl rfl rfl ?_
        refine SXL.pass rfl rfl rfl ?_
        refine SXL.pass rfl rfl rfl ?_
        exact SXL.nil (segQ.mk (.skip rfl (.skip rfl (.skip rfl (.skip rfl (.skip rfl (.skip rfl (.skip rfl (.skip rfl (.skip rfl (EnvSub.refl _)))))))))) rfl rfl rfl)
      case hf =>
        intro g14
        refine SXL.fieldAddr fp_23_1 rfl ?_
        refine SXL.load1o 2 sh_3 rfl rfl rfl ?_
        refine SXL.fieldAddr fp_23_0 rfl ?_
        refine SXL.load1o 1 sh_3 rfl rfl rfl ?_
        refine SXL.mul rfl rfl (by omega) ?_
        refine SXL.move rfl ?_
        refine SXL.mul rfl rfl (by omega) ?_
        refine SXL.lss rfl rfl ?_
        exact SXL.nil (segQ.mk (.skip rfl (.skip rfl (.skip rfl (.skip rfl (.skip rfl (.skip rfl (.skip rfl (.skip rfl (.skip rfl (EnvSub.refl _)))))))))) rfl rfl ⟨rfl, rfl⟩)
      refine SXL.move rfl ?_
      apply SXL.orG 9
      case hl => exact rfl
      case hd => exact rfl
      case hg => exact rfl
      case ht =>
        intro g15
        refine SXL.pass rfl rfl rfl ?_
        refine SXL.pass rfl rfl rfl ?_
        refine SXL.pass rfl rfl rfl ?_
        refine SXL.pass rfl rfl rfl ?_
        refine SXL.pass rfl rfl rfl ?_
        refine SXL.pass rfl rfl rfl ?_
        refine SXL.pass rfl rfl rfl ?_
        refine SXL.pass rfl rfl rfl ?_
        refine SXL.pass rfl rfl rfl ?_
        exact SXL.nil (segQ.mk (.skip rfl (.skip rfl (.skip rfl (.skip rfl (.skip rfl (.skip rfl (.skip rfl (.skip rfl (.skip rfl (.skip rfl (EnvSub.refl _))))))))))) rfl rfl rfl)
      case hf =>
        intro g15
        refine SXL.fieldAddr fp_23_1 rfl ?_
        refine SXL.load1o 2 sh_3 rfl rfl rfl ?_
        refine SXL.sub rfl rfl (by omega) ?_
        refine SXL.fieldAddr fp_23_0 rfl ?_
        refine SXL.load1o 1 sh_3 rfl rfl rfl ?_
        refine SXL.mul rfl rfl (by omega) ?_
        refine SXL.move rfl ?_
        refine SXL.mul rfl rfl (by omega) ?_
        refine SXL.geq rfl rfl ?_
        exact SXL.nil (segQ.mk (.skip rfl (.skip rfl (.skip rfl (.skip rfl (.skip rfl (.skip rfl (.skip rfl (.skip rfl (.skip rfl (.skip rfl (EnvSub.refl _))))))))))) rfl rfl ⟨rfl, rfl⟩)
      refine SXL.move rfl ?_
      apply SXL.orG 5
      case hl => exact rfl
      case hd => exact rfl
      case hg => exact rfl
      case ht =>
        intro g16
        refine SXL.pass rfl rfl rfl ?_
        refine SXL.pass rfl rfl rfl ?_
        refine SXL.pass rfl rfl rfl ?_
        refine SXL.pass rfl rfl rfl ?_
        refine SXL.pass rfl rfl rfl ?_
        exact SXL.nil (segQ.mk (.skip rfl (.skip rfl (.skip rfl (.skip rfl (.skip rfl (.skip rfl (EnvSub.refl _))))))) rfl rfl rfl)
      case hf =>
        intro g16
        refine SXL.fieldAddr fp_23_0 rfl ?_
        refine SXL.load1o 3 sh_3 rfl rfl rfl ?_
        refine SXL.fieldAddr fp_23_0 rfl ?_
        refine SXL.load1o 2 sh_3 rfl rfl rfl ?_
        refine SXL.lss rfl rfl ?_
        exact SXL.nil (segQ.mk (.skip rfl (.skip rfl (.skip rfl (.skip rfl (.skip rfl (.skip rfl (EnvSub.refl _))))))) rfl rfl ⟨rfl, rfl⟩)
      refine SXL.move rfl ?_
      apply SXL.orG 5
      case hl => exact rfl
      case hd => exact rfl
      case hg => exact rfl
      case ht =>
        intro c172
        refine SXL.pass rfl rfl rfl ?_
        refine SXL.pass rfl rfl rfl ?_
        refine SXL.pass rfl rfl rfl ?_
        refine SXL.pass rfl rfl rfl ?_
        refine SXL.pass rfl rfl rfl ?_
        exact SXL.nil (segQ.mk (.skip rfl (.skip rfl (.skip rfl (.skip rfl (.skip rfl (.skip rfl (EnvSub.refl _))))))) rfl rfl rfl)
      case hf =>
        intro c172
        refine SXL.fieldAddr fp_23_1 rfl ?_
        refine SXL.load1o 3 sh_3 rfl rfl rfl ?_
        refine SXL.fieldAddr fp_23_1 rfl ?_
        refine SXL.load1o 2 sh_3 rfl rfl rfl ?_
        refine SXL.lss rfl rfl ?_
        exact SXL.nil (segQ.mk (.skip rfl (.skip rfl (.skip rfl (.skip rfl (.skip rfl (.skip rfl (EnvSub.refl _))))))) rfl rfl ⟨rfl, rfl⟩)
      refine SXL.nil ?_
      refine thenQ.normal ?_
      refine SX.condP rfl (fun c172 => ?_) (fun c172 => ?_)
      · exfalso; omega
      refine SX.skip ?_
      refine thenQ.normal ?_
      refine SX.seq ?_
      obtain ⟨j, hj⟩ : ∃ j : Nat, Min.min (s.weeks - 1) ((k : Int) + 2) = j := ⟨(Min.min (s.weeks - 1) ((k : Int) + 2)).toNat, by omega⟩
      have hjk : k ≤ j := by omega
      have hjw : j < s.weeks.toNat := by omega
      have hfj := fillE_at hTo hjw hab
      have hgj := gives_in hTo hjw
      have hmj := fun h => fill_mono hTo hjk hjw hab hab (Int.le_refl _) h
      refine SX.region ?_
      refine SXL.fieldAddr fp_27_0 rfl ?_
      refine SXL.load1o 0 sh_3 rfl rfl rfl ?_
      refine SXL.sub rfl rfl (by omega) ?_
      refine SXL.move rfl ?_
      refine SXL.add rfl rfl (by omega) ?_
      refine SXL.minE rfl rfl hj ?_
      refine SXL.assign rfl ?_
      refine SXL.nil ?_
      refine thenQ.normal ?_
      refine SX.seq ?_
      refine SX.region ?_
      refine SXL.loadNo 0 sh_27 rfl rfl rfl ?_
      refine SXL.move rfl ?_
      refine SXL.move rfl ?_
      refine SXL.call1 (.tuple ⟨[.agg ⟨[.int .i64 ((fillLo s (j : Int) a)), .int .i64 ((fillHi s (j : Int) a))]⟩, .int .i64 (fillE s (j : Int) a)]⟩) fn_50 rfl (fun w hI => sfill_any s bo ro bc rc (j : Int) a (by omega) (by omega) _ (hg.inv hI) (hs.inv hI)) ?_
      refine SXL.move rfl ?_
      refine SXL.extract rfl rfl ?_
      refine SXL.extract rfl rfl ?_
      refine SXL.alloc zp_23 ?_; intro b4
      refine SXL.store 4 sz_23 rfl rfl rfl rfl rfl rfl ?_
      refine SXL.assign rfl ?_
      refine SXL.nil ?_
      refine thenQ.normal ?_
      refine SX.seq ?_
      refine SX.region ?_
      refine SXL.move rfl ?_
      refine SXL.move rfl ?_
      apply SXL.andG 20
      case hl => exact rfl
      case hd => exact rfl
      case hg => exact rfl
      case ht =>
        intro g19
        refine SXL.move rfl ?_
        refine SXL.eqlI rfl rfl ?_
        refine SXL.move rfl ?_
        apply SXL.orG 16
        case hl => exact rfl
        case hd => exact rfl
        case hg => exact rfl
        case ht =>
          intro g20
          refine SXL.pass rfl rfl rfl ?_
          refine SXL.pass rfl rfl rfl ?_
          refine SXL.pass rfl rfl rfl ?_
          refine SXL.pass rfl rfl rfl ?_
          refine SXL.pass rfl rfl rfl ?_
          refine SXL.pass rfl rfl rfl ?_
          refine SXL.pass rfl rfl rfl ?_
          refine SXL.pass rfl rfl rfl ?_
          refine SXL.pass rfl rfl rfl ?_
          refine SXL.pass rfl rfl rfl ?_
          refine SXL.pass rfl rfl rfl ?_
          refine SXL.pass rfl rfl rfl ?_
          refine SXL.pass rfl rfl rfl ?_
          refine SXL.pass rfl rfl rfl ?_
          refine SXL.pass rfl rfl rfl ?_
          refine SXL.pass rfl rfl rfl ?_
          exact SXL.nil (segQ.mk (.skip rfl (.skip rfl (.skip rfl (.skip rfl (.skip rfl (.skip rfl (.skip rfl (.skip rfl (.skip rfl (.skip rfl (.skip rfl (.skip rfl (.skip rfl (.skip rfl (.skip rfl (.skip rfl (.skip rfl (EnvSub.refl _)))))))))))))))))) rfl rfl rfl)
        case hf =>
          intro g20
          refine SXL.move rfl ?_
          refine SXL.eqlI rfl rfl ?_
          refine SXL.move rfl ?_
          apply SXL.andG 5
          case hl => exact rfl
          case hd => exact rfl
          case hg => exact rfl
          case ht =>
            intro g21
            refine SXL.fieldAddr fp_23_0 rfl ?_
            refine SXL.load1o 4 sh_3 rfl rfl rfl ?_
            refine SXL.fieldAddr fp_23_0 rfl ?_
            refine SXL.load1o 2 sh_3 rfl rfl rfl ?_
            refine SXL.geq rfl rfl ?_
            exact SXL.nil (segQ.mk (.skip rfl (.skip rfl (.skip rfl (.skip rfl (.skip rfl (.skip rfl (EnvSub.refl _))))))) rfl rfl ⟨rfl, rfl⟩)
          case hf =>
            intro g21
            refine SXL.pass rfl rfl rfl ?_
            refine SXL.pass rfl rfl rfl ?_
            refine SXL.pass rfl rfl rfl ?_
            refine SXL.pass rfl rfl rfl ?_
            refine SXL.pass rfl rfl rfl ?_
            exact SXL.nil (segQ.mk (.skip rfl (.skip rfl (.skip rfl (.skip rfl (.skip rfl (.skip rfl (EnvSub.refl _))))))) rfl rfl rfl)
          refine SXL.move rfl ?_
          apply SXL.andG 5
          case hl => exact rfl
          case hd => exact rfl
          case hg => exact rfl
          case ht =>
            intro g22
            refine SXL.fieldAddr fp_23_1 rfl ?_
            refine SXL.load1o 4 sh_3 rfl rfl rfl ?_
            refine SXL.fieldAddr fp_23_1 rfl ?_
            refine SXL.load1o 2 sh_3 rfl rfl rfl ?_
            refine SXL.geq rfl rfl ?_
            exact SXL.nil (segQ.mk (.skip rfl (.skip rfl (.skip rfl (.skip rfl (.skip rfl (.skip rfl (EnvSub.refl _))))))) rfl rfl ⟨rfl, rfl⟩)
          case hf =>
            intro g22
            refine SXL.pass rfl rfl rfl ?_
            refine SXL.pass rfl rfl rfl ?_
            refine SXL.pass rfl rfl rfl ?_
            refine SXL.pass rfl rfl rfl ?_
            refine SXL.pass rfl rfl rfl ?_
            exact SXL.nil (segQ.mk (.skip rfl (.skip rfl (.skip rfl (.skip rfl (.skip rfl (.skip rfl (EnvSub.refl _))))))) rfl rfl rfl)
          exact SXL.nil (segQ.mk (.skip rfl (.skip rfl (.skip rfl (.skip rfl (.skip rfl (EnvSub.refl _)))))) rfl rfl ⟨rfl, rfl⟩)
        exact SXL.nil (segQ.mk (.skip rfl (.skip rfl (.skip rfl (.skip rfl (EnvSub.refl _))))) rfl rfl ⟨rfl, rfl⟩)
      case hf =>
        intro g19
        refine SXL.pass rfl rfl rfl ?_
        refine SXL.pass rfl rfl rfl ?_
        refine SXL.pass rfl rfl rfl ?_
        refine SXL.pass rfl rfl rfl ?_
        refine SXL.pass rfl rfl rfl ?_
        refine SXL.pass rfl rfl rfl ?_
        refine SXL.pass rfl rfl rfl ?_
        refine SXL.pass rfl rfl rfl ?_
        refine SXL.pass rfl rfl rfl ?_
        refine SXL.pass rfl rfl rfl ?_
        refine SXL.pass rfl rfl rfl ?_
        refine SXL.pass rfl rfl rfl ?_
        refine SXL.pass rfl rfl rfl ?_
        refine SXL.pass rfl rfl rfl ?_
        refine SXL.pass rfl rfl rfl ?_
        refine SXL.pass rfl rfl rfl ?_
        refine SXL.pass rfl rfl rfl ?_
        refine SXL.pass rfl rfl rfl ?_
        refine SXL.pass rfl rfl rfl ?_
        refine SXL.pass rfl rfl rfl ?_
        exact SXL.nil (segQ.mk (.skip rfl (.skip rfl (.skip rfl (.skip rfl (.skip rfl (.skip rfl (.skip rfl (.skip rfl (.skip rfl (.skip rfl (.skip rfl (.skip rfl (.skip rfl (.skip rfl (.skip rfl (.skip rfl (.skip rfl (.skip rfl (.skip rfl (.skip rfl (.skip rfl (EnvSub.refl _)))))))))))))))))))))) rfl rfl rfl)
      refine SXL.assign rfl ?_
      refine SXL.nil ?_
      refine thenQ.normal ?_
      refine SX.ret ?_
      refine retQ.dead [] rfl ?_
      refine retQ.one (ResAt.tmp rfl) ?_
      refine congrArg Value.bool (decide_eq_true ⟨trivial, ?_⟩); split at hfj
      · exact .inl hfj
      · have := hmj (by omega); exact .inr ⟨⟨hfj, by omega⟩, by omega⟩
set_option maxHeartbeats 4000000 in
theorem look_law (s : Sp) (bo ro : Option Addr) (bc rc : Nat) (which : Int) (hw1 : 0 ≤ which ∧ which ≤ 255) (w : World) (hg : Gl w) (hs : SpAt w s bo ro) :
    CallsR Tryd.prog 12 [.agg ⟨[.int .i64 s.weeks, .int .i64 s.most, .int .i64 s.fall, .int .i64 s.a0, .int .i64 s.a1, .int .i64 s.w0, .int .i64 s.w1, (.slice bo s.book.length bc), (.slice ro s.reads.length rc)]⟩, .int .u8 which] w (fun v _ => v = .bool true) := by
  refine CallsR.of_SX (n := 104) (rs := [.tmp 4]) Tryd.func12 rfl rfl rfl rfl ?_
  show SX _ _ _ ⟨[(0, .agg ⟨[.int .i64 s.weeks, .int .i64 s.most, .int .i64 s.fall, .int .i64 s.a0, .int .i64 s.a1, .int .i64 s.w0, .int .i64 s.w1, (.slice bo s.book.length bc), (.slice ro s.reads.length rc)]⟩), (1, .int .u8 which)], [], []⟩
  refine SX.seq ?_
  refine SX.region ?_
  refine SXL.box rfl rfl ?_; intro b0
  refine SXL.assign rfl ?_
  refine SXL.nil ?_
  refine thenQ.normal ?_
  refine SX.seq ?_
  refine SX.region ?_
  refine SXL.call1 (.bool (decide (True))) fn_54 rfl (fun w hI => (alive_any w (hg.inv hI)).eqv rfl) ?_
  refine SXL.assign rfl ?_
  refine SXL.nil ?_
  refine thenQ.normal ?_
  refine SX.seq ?_
  refine SX.seq ?_
  refine SX.region ?_
  refine SXL.loadNo 0 sh_27 rfl rfl rfl ?_
  refine SXL.call1 (.bool (decide (¬((30 : Int) < (s.book.length : Int) ∨ (30 : Int) < (s.reads.length : Int)) ∧ SpP s))) fn_55 rfl (fun w hI => ready_any s bo ro bc rc _ (hs.inv hI)) ?_
  refine SXL.not rfl ?_
  refine SXL.move rfl ?_
  apply SXL.orG 3
  case hl => exact rfl
  case hd => exact rfl
  case hg => exact rfl
  case ht =>
    intro gr
    refine SXL.pass rfl rfl rfl ?_
    refine SXL.pass rfl rfl rfl ?_
    refine SXL.pass rfl rfl rfl ?_
    exact SXL.nil (segQ.mk (.skip rfl (.skip rfl (.skip rfl (.skip rfl (EnvSub.refl _))))) rfl rfl rfl)
  case hf =>
    intro gr
    have gv := (Decidable.not_not.1 gr).2
    refine SXL.loadNo 0 sh_27 rfl rfl rfl ?_
    refine SXL.call1 (.bool (decide (TrueP s))) fn_60 rfl (fun w hI => true_any s bo ro bc rc gv _ (hs.inv hI)) ?_
    refine SXL.not rfl ?_
    exact SXL.nil (segQ.mk (.skip rfl (.skip rfl (.skip rfl (.skip rfl (EnvSub.refl _))))) rfl rfl ⟨rfl, rfl⟩)
  refine SXL.move rfl ?_
  apply SXL.orG 2
  case hl => exact rfl
  case hd => exact rfl
  case hg => exact rfl
  case ht =>
    intro c27
    refine SXL.pass rfl rfl rfl ?_
    refine SXL.pass rfl rfl rfl ?_
    exact SXL.nil (segQ.mk (.skip rfl (.skip rfl (.skip rfl (EnvSub.refl _)))) rfl rfl rfl)
  case hf =>
    intro c27
    refine SXL.move rfl ?_
    refine SXL.not rfl ?_
    exact SXL.nil (segQ.mk (.skip rfl (.skip rfl (.skip rfl (EnvSub.refl _)))) rfl rfl ⟨rfl, rfl⟩)
  refine SXL.nil ?_
  refine thenQ.normal ?_
  refine SX.condP rfl (fun c27 => ?_) (fun c27 => ?_)
  · refine SX.seq ?_
    refine SX.region ?_
    refine SXL.move rfl ?_
    refine SXL.assign rfl ?_
    refine SXL.nil ?_
    refine thenQ.normal ?_
    refine SX.ret ?_
    refine thenQ.ret ?_
    refine retQ.dead [] rfl ?_
    refine retQ.one (ResAt.tmp rfl) ?_
    first | rfl | exact congrArg Value.bool (decide_eq_true trivial)
  · refine SX.skip ?_
    refine thenQ.normal ?_
    refine SX.seq ?_
    have hpre : (¬((30 : Int) < (s.book.length : Int) ∨ (30 : Int) < (s.reads.length : Int)) ∧ SpP s) ∧ TrueP s := by
          by_cases h1 : ¬((30 : Int) < (s.book.length : Int) ∨ (30 : Int) < (s.reads.length : Int)) ∧ SpP s
          · by_cases h2 : TrueP s
            · exact ⟨h1, h2⟩
            · exact absurd (by first | exact .inl (.inr h2) | exact .inr h2) c27
          · exact absurd (by first | exact .inl (.inl h1) | exact .inl h1 | exact h1) c27
    obtain ⟨⟨hgr, hv⟩, ht⟩ := hpre
    have hH := hv.1
    unfold HeadP at hH
    have hTo : toldE s 0 = 0 := toldE_ok hv ⟨by omega, by omega⟩ ht
    obtain ⟨lk1, lk2, lk3⟩ := look_at hTo
    have lk4 := leftP_bd hv lk3
    refine SX.region ?_
    refine SXL.loadNo 0 sh_27 rfl rfl rfl ?_
    refine SXL.call1 (.tuple ⟨[.int .i64 ((lookI s : Nat) : Int), .int .i64 (leftP s (lookI s)), .int .i64 (toldE s 0)]⟩) fn_52 rfl (fun w hI => (slook_any s bo ro bc rc (by omega) (by omega) _ (hg.inv hI) (hs.inv hI)).eqv (by rw [lk1, lk2])) ?_
    refine SXL.move rfl ?_
    refine SXL.extract rfl rfl ?_
    refine SXL.extract rfl rfl ?_
    refine SXL.extract rfl rfl ?_
    refine SXL.assign rfl ?_
    refine SXL.assign rfl ?_
    refine SXL.assign rfl ?_
    refine SXL.nil ?_
    refine thenQ.normal ?_
    refine SX.seq ?_
    refine SX.seq ?_
    refine SX.region ?_
    refine SXL.move rfl ?_
    refine SXL.neqI rfl rfl ?_
    refine SXL.move rfl ?_
    apply SXL.orG 2
    case hl => exact rfl
    case hd => exact rfl
    case hg => exact rfl
    case ht =>
      intro g4
      refine SXL.pass rfl rfl rfl ?_
      refine SXL.pass rfl rfl rfl ?_
      exact SXL.nil (segQ.mk (.skip rfl (.skip rfl (.skip rfl (EnvSub.refl _)))) rfl rfl rfl)
    case hf =>
      intro g4
      refine SXL.move rfl ?_
      refine SXL.lss rfl rfl ?_
      exact SXL.nil (segQ.mk (.skip rfl (.skip rfl (.skip rfl (EnvSub.refl _)))) rfl rfl ⟨rfl, rfl⟩)
    refine SXL.move rfl ?_
    apply SXL.orG 4
    case hl => exact rfl
    case hd => exact rfl
    case hg => exact rfl
    case ht =>
      intro g5
      refine SXL.pass rfl rfl rfl ?_
      refine SXL.pass rfl rfl rfl ?_
      refine SXL.pass rfl rfl rfl ?_
      refine SXL.pass rfl rfl rfl ?_
      exact SXL.nil (segQ.mk (.skip rfl (.skip rfl (.skip rfl (.skip rfl (.skip rfl (EnvSub.refl _)))))) rfl rfl rfl)
    case hf =>
      intro g5
      refine SXL.move rfl ?_
      refine SXL.fieldAddr fp_27_0 rfl ?_
      refine SXL.load1o 0 sh_3 rfl rfl rfl ?_
      refine SXL.geq rfl rfl ?_
      exact SXL.nil (segQ.mk (.skip rfl (.skip rfl (.skip rfl (.skip rfl (.skip rfl (EnvSub.refl _)))))) rfl rfl ⟨rfl, rfl⟩)
    refine SXL.move rfl ?_
    apply SXL.orG 5
    case hl => exact rfl
    case hd => exact rfl
    case hg => exact rfl
    case ht =>
      intro c53
      refine SXL.pass rfl rfl rfl ?_
      refine SXL.pass rfl rfl rfl ?_
      refine SXL.pass rfl rfl rfl ?_
      refine SXL.pass rfl rfl rfl ?_
      refine SXL.pass rfl rfl rfl ?_
      exact SXL.nil (segQ.mk (.skip rfl (.skip rfl (.skip rfl (.skip rfl (.skip rfl (.skip rfl (EnvSub.refl _))))))) rfl rfl rfl)
    case hf =>
      intro c53
      refine SXL.move rfl ?_
      refine SXL.loadNo 0 sh_27 rfl rfl rfl ?_
      refine SXL.move rfl ?_
      refine SXL.call1 (.int .i64 (leftP s (lookI s))) fn_65 rfl (fun w hI => rleft_any s bo ro bc rc (lookI s) hv lk3 _ (hs.inv hI)) ?_
      refine SXL.neqI rfl rfl ?_
      exact SXL.nil (segQ.mk (.skip rfl (.skip rfl (.skip rfl (.skip rfl (.skip rfl (.skip rfl (EnvSub.refl _))))))) rfl rfl ⟨rfl, rfl⟩)
    refine SXL.nil ?_
    refine thenQ.normal ?_
    refine SX.condP rfl (fun c53 => ?_) (fun c53 => ?_)
    · exfalso; omega
    refine SX.skip ?_
    refine thenQ.normal ?_
    refine SX.seq ?_
    refine SX.region ?_
    refine SXL.assign rfl ?_
    refine SXL.nil ?_
    refine thenQ.normal ?_
    refine SX.seq ?_
    refine SX.seq ?_
    refine SX.region ?_
    refine SXL.fieldAddr fp_27_0 rfl ?_
    refine SXL.load1o 0 sh_3 rfl rfl rfl ?_
    refine SXL.move rfl ?_
    refine SXL.nil ?_
    refine thenQ.normal ?_
    refine SX.block ?_
    refine SX.loopW (α := Nat) [1, 2, 4, 5, 6, 7, 55] rfl (fun k => [(56, .int .i64 ((k : Int))), (9, .int .i64 ((allTo s k)))]) (fun k => [(b0, .cells ⟨[.int .i64 s.weeks, .int .i64 s.most, .int .i64 s.fall, .int .i64 s.a0, .int .i64 s.a1, .int .i64 s.w0, .int .i64 s.w1, (.slice bo s.book.length bc), (.slice ro s.reads.length rc)]⟩ 27 (0, 0))]) (fun k => []) (fun k => k ≤ s.weeks.toNat) (fun k => s.weeks.toNat - k) 0 (Nat.zero_le _) ⟨rfl, rfl, trivial⟩ rfl ?_
    rintro k hk0
    refine SX.seq ?_
    refine SX.region ?_
    refine SXL.lss rfl rfl ?_
    refine SXL.nil ?_
    refine thenQ.normal ?_
    refine SX.seq ?_
    refine SX.condP rfl (fun c8 => ?_) (fun c8 => ?_)
    · refine SX.skip ?_
      refine thenQ.normal ?_
      refine SX.seq ?_
      refine SX.block ?_
      refine SX.seq ?_
      have hk : k < s.weeks.toNat := by omega
      have hek := (told_same hTo hk).1
      have hin := gives_in hTo hk
      have hal := allTo_bd hTo k (by omega)
      refine SX.region ?_
      refine SXL.move rfl ?_
      refine SXL.assign rfl ?_
      refine SXL.nil ?_
      refine thenQ.normal ?_
      refine SX.seq ?_
      refine SX.region ?_
      refine SXL.loadNo 0 sh_27 rfl rfl rfl ?_
      refine SXL.move rfl ?_
      refine SXL.call1 (.tuple ⟨[.agg ⟨[.int .i64 ((givesLo s (k : Int))), .int .i64 ((givesHi s (k : Int)))]⟩, .int .i64 (toldE s (k : Int))]⟩) fn_22 rfl (fun w hI => sgives_any s bo ro bc rc (k : Int) (by omega) (by omega) _ (hg.inv hI) (hs.inv hI)) ?_
      refine SXL.move rfl ?_
      refine SXL.extract rfl rfl ?_
      refine SXL.extract rfl rfl ?_
      refine SXL.alloc zp_23 ?_; intro b1
      refine SXL.store 1 sz_23 rfl rfl rfl rfl rfl rfl ?_
      refine SXL.assign rfl ?_
      refine SXL.nil ?_
      refine thenQ.normal ?_
      refine SX.seq ?_
      refine SX.seq ?_
      refine SX.region ?_
      refine SXL.move rfl ?_
      refine SXL.neqI rfl rfl ?_
      refine SXL.nil ?_
      refine thenQ.normal ?_
      refine SX.condP rfl (fun c66 => ?_) (fun c66 => ?_)
      · exfalso; omega
      refine SX.skip ?_
      refine thenQ.normal ?_
      refine SX.region ?_
      refine SXL.move rfl ?_
      refine SXL.fieldAddr fp_23_1 rfl ?_
      refine SXL.load1o 1 sh_3 rfl rfl rfl ?_
      refine SXL.fieldAddr fp_23_0 rfl ?_
      refine SXL.load1o 1 sh_3 rfl rfl rfl ?_
      refine SXL.sub rfl rfl (by omega) ?_
      refine SXL.add rfl rfl (by omega) ?_
      refine SXL.assign rfl ?_
      refine SXL.nil ?_
      refine blockQ.normal ?_
      refine thenQ.normal ?_
      refine SX.region ?_
      refine SXL.add rfl rfl (by omega) ?_
      refine SXL.move rfl ?_
      refine SXL.nil ?_
      refine thenQ.normal ?_
      refine ⟨k + 1, MeetsW.mkP _ ⟨rfl, rfl, trivial⟩ ⟨rfl, rfl, rfl, rfl, rfl, rfl, rfl, trivial⟩ rfl, (by omega), (by show s.weeks.toNat - (k + 1) < s.weeks.toNat - k; omega)⟩
    · refine SX.exit ?_
      refine thenQ.exit ?_
      refine thenQ.exit ?_
      refine blockQ.exit ?_
      refine thenQ.normal ?_
      refine SX.seq ?_
      obtain rfl : k = s.weeks.toNat := by omega
      have hla := look_all hv ht
      obtain ⟨k, hkw⟩ : ∃ k : Nat, which % s.weeks = k := ⟨(which % s.weeks).toNat, (Int.toNat_of_nonneg (Int.emod_nonneg _ (by omega))).symm⟩
      have hk : k < s.weeks.toNat := by have := Int.emod_lt_of_pos which (b := s.weeks) (by omega); omega
      refine SX.region ?_
      refine SXL.move rfl ?_
      refine SXL.cv cv_5_3 rfl (by omega) ?_
      refine SXL.fieldAddr fp_27_0 rfl ?_
      refine SXL.load1o 0 sh_3 rfl rfl rfl ?_
      refine SXL.remE rfl rfl (by omega) hkw ?_
      refine SXL.assign rfl ?_
      refine SXL.nil ?_
      refine thenQ.normal ?_
      refine SX.seq ?_
      refine SX.region ?_
      refine SXL.loadNo 0 sh_27 rfl rfl rfl ?_
      refine SXL.move rfl ?_
      refine SXL.call1 (.int .i64 (leftP s k)) fn_65 rfl (fun w hI => rleft_any s bo ro bc rc k hv hk _ (hs.inv hI)) ?_
      refine SXL.assign rfl ?_
      refine SXL.nil ?_
      refine thenQ.normal ?_
      refine SX.seq ?_
      refine SX.region ?_
      refine SXL.move rfl ?_
      refine SXL.move rfl ?_
      apply SXL.andG 3
      case hl => exact rfl
      case hd => exact rfl
      case hg => exact rfl
      case ht =>
        intro g10
        refine SXL.move rfl ?_
        refine SXL.move rfl ?_
        refine SXL.leq rfl rfl ?_
        exact SXL.nil (segQ.mk (.skip rfl (.skip rfl (.skip rfl (.skip rfl (EnvSub.refl _))))) rfl rfl ⟨rfl, rfl⟩)
      case hf =>
        intro g10
        refine SXL.pass rfl rfl rfl ?_
        refine SXL.pass rfl rfl rfl ?_
        refine SXL.pass rfl rfl rfl ?_
        exact SXL.nil (segQ.mk (.skip rfl (.skip rfl (.skip rfl (.skip rfl (EnvSub.refl _))))) rfl rfl rfl)
      refine SXL.move rfl ?_
      apply SXL.andG 3
      case hl => exact rfl
      case hd => exact rfl
      case hg => exact rfl
      case ht =>
        intro g11
        refine SXL.move rfl ?_
        refine SXL.move rfl ?_
        refine SXL.leq rfl rfl ?_
        exact SXL.nil (segQ.mk (.skip rfl (.skip rfl (.skip rfl (.skip rfl (EnvSub.refl _))))) rfl rfl ⟨rfl, rfl⟩)
      case hf =>
        intro g11
        refine SXL.pass rfl rfl rfl ?_
        refine SXL.pass rfl rfl rfl ?_
        refine SXL.pass rfl rfl rfl ?_
        exact SXL.nil (segQ.mk (.skip rfl (.skip rfl (.skip rfl (.skip rfl (EnvSub.refl _))))) rfl rfl rfl)
      refine SXL.move rfl ?_
      apply SXL.andG 8
      case hl => exact rfl
      case hd => exact rfl
      case hg => exact rfl
      case ht =>
        intro g12
        refine SXL.move rfl ?_
        refine SXL.move rfl ?_
        refine SXL.lss rfl rfl ?_
        refine SXL.move rfl ?_
        apply SXL.orG 3
        case hl => exact rfl
        case hd => exact rfl
        case hg => exact rfl
        case ht =>
          intro g13
          refine SXL.pass rfl rfl rfl ?_
          refine SXL.pass rfl rfl rfl ?_
          refine SXL.pass rfl rfl rfl ?_
          exact SXL.nil (segQ.mk (.skip rfl (.skip rfl (.skip rfl (.skip rfl (EnvSub.refl _))))) rfl rfl rfl)
        case hf =>
          intro g13
          refine SXL.move rfl ?_
          refine SXL.move rfl ?_
          refine SXL.leq rfl rfl ?_
          exact SXL.nil (segQ.mk (.skip rfl (.skip rfl (.skip rfl (.skip rfl (EnvSub.refl _))))) rfl rfl ⟨rfl, rfl⟩)
        exact SXL.nil (segQ.mk (.skip rfl (.skip rfl (.skip rfl (.skip rfl (.skip rfl (EnvSub.refl _)))))) rfl rfl ⟨rfl, rfl⟩)
      case hf =>
        intro g12
        refine SXL.pass rfl rfl rfl ?_
        refine SXL.pass rfl rfl rfl ?_
        refine SXL.pass rfl rfl rfl ?_
        refine SXL.pass rfl rfl rfl ?_
        refine SXL.pass rfl rfl rfl ?_
        refine SXL.pass rfl rfl rfl ?_
        refine SXL.pass rfl rfl rfl ?_
        refine SXL.pass rfl rfl rfl ?_
        exact SXL.nil (segQ.mk (.skip rfl (.skip rfl (.skip rfl (.skip rfl (.skip rfl (.skip rfl (.skip rfl (.skip rfl (.skip rfl (EnvSub.refl _)))))))))) rfl rfl rfl)
      refine SXL.assign rfl ?_
      refine SXL.nil ?_
      refine thenQ.normal ?_
      refine SX.ret ?_
      refine retQ.dead [] rfl ?_
      refine retQ.one (ResAt.tmp rfl) ?_
      have hm1 : leftP s (lookI s) ≤ leftP s k := amin_min (leftP s) (s.weeks.toNat - 1) k (by omega)
      refine congrArg Value.bool (decide_eq_true ⟨⟨⟨trivial, hla⟩, hm1⟩, ?_⟩)
      by_cases h : leftP s (lookI s) < leftP s k
      · exact .inl h
      · refine .inr ?_
        rcases Nat.lt_or_ge k (lookI s) with h2 | h2
        · have : leftP s (lookI s) < leftP s k := amin_first (leftP s) (s.weeks.toNat - 1) k h2
          exact absurd this h
        · omega
end Go.Proofs.YtknflipongbngaaDoor

/- The fewest false readings: what is told is the first of the fewest. Nothing of Go stands here. -/
namespace Go.S
open Go.X (G)
/-- One list is before another of its length. -/
def lexB : List Int → List Int → Prop
  | x :: xs, y :: ys => x < y ∨ (x = y ∧ lexB xs ys)
  | _, _ => False
def befP (a b : List Int) : Prop := if a.length ≠ b.length then a.length < b.length else lexB a b
theorem lexB_at : ∀ {a b : List Int} {k : Nat}, k < a.length → k < b.length → (∀ i, i < k → a.getD i 0 = b.getD i 0) → a.getD k 0 ≠ b.getD k 0 → (lexB a b ↔ a.getD k 0 < b.getD k 0)
  | [], _, _, h, _, _, _ => absurd h (Nat.not_lt_zero _)
  | _ :: _, [], _, _, h, _, _ => absurd h (Nat.not_lt_zero _)
  | x :: xs, y :: ys, 0, _, _, _, hne => by
    have hne : x ≠ y := hne
    show (x < y ∨ (x = y ∧ lexB xs ys)) ↔ x < y
    exact ⟨fun h => h.elim id (fun h => absurd h.1 hne), .inl⟩
  | x :: xs, y :: ys, k + 1, h1, h2, he, hne => by
    have h0 : x = y := he 0 (by omega)
    have ih := lexB_at (a := xs) (b := ys) (k := k) (by simpa using h1) (by simpa using h2) (fun i hi => he (i + 1) (by omega)) hne
    show (x < y ∨ (x = y ∧ lexB xs ys)) ↔ _
    constructor
    · rintro (h | ⟨_, h⟩)
      · omega
      · exact ih.1 h
    · intro h; exact .inr ⟨h0, ih.2 h⟩
theorem lexB_irr : ∀ a : List Int, ¬lexB a a
  | [] => id
  | x :: xs => fun h => h.elim (fun h => by omega) (fun h => lexB_irr xs h.2)
theorem lexB_pre {a b : List Int} : ∀ l : List Int, lexB (l ++ a) (l ++ b) ↔ lexB a b
  | [] => Iff.rfl
  | x :: xs => by
    show (x < x ∨ (x = x ∧ lexB (xs ++ a) (xs ++ b))) ↔ _
    rw [lexB_pre xs]
    exact ⟨fun h => h.elim (fun h => by omega) (·.2), fun h => .inr ⟨rfl, h⟩⟩
/-- Numbers of readings that stand behind the first i. -/
def Ch (s : Sp) (i m : Nat) (c : List Int) : Prop := c.length = m ∧ c.Sublist ((numsL s).drop i)
theorem drop_nums {s : Sp} {i : Nat} (h : i < s.reads.length) : (numsL s).drop i = (s.reads.getD i default).num :: (numsL s).drop (i + 1) := by
  have h2 : i < (numsL s).length := by simpa using h
  rw [List.drop_eq_getElem_cons h2]
  simp [numsL, h]
theorem nums_gt {s : Sp} (hv : SpP s) {i : Nat} (h : i < s.reads.length) {x : Int} (hx : x ∈ (numsL s).drop (i + 1)) : (s.reads.getD i default).num < x := by
  have hp : (numsL s).Pairwise (· < ·) := by
    unfold numsL
    rw [List.pairwise_map]
    exact (readsP_iff.1 hv.2.2).2
  have h2 := hp.drop (i := i)
  rw [drop_nums h] at h2
  exact (List.pairwise_cons.1 h2).1 x hx
theorem struck_spec {s : Sp} (hv : SpP s) : ∀ (m f i : Nat) (l : List Int), f = s.reads.length - i →
    (∀ r, struckP s m i l = some r → ∃ c, Ch s i m c ∧ r = l ++ c ∧ TrueP (wo s r) ∧ ∀ c', Ch s i m c' → TrueP (wo s (l ++ c')) → ¬lexB c' c) ∧
    (struckP s m i l = none → ∀ c, Ch s i m c → ¬TrueP (wo s (l ++ c)))
  | 0, _, i, l, _ => by
    unfold struckP
    constructor
    · intro r h
      split at h
      · rename_i ht
        cases h
        refine ⟨[], ⟨rfl, List.nil_sublist _⟩, (List.append_nil _).symm, ht, fun c' _ _ h => ?_⟩
        cases c' <;> exact h
      · cases h
    · intro h c hc
      split at h
      · cases h
      · rename_i ht
        have : c = [] := List.eq_nil_of_length_eq_zero hc.1
        subst this
        rwa [List.append_nil]
  | m + 1, 0, i, l, hf => by
    rw [struck_done (by omega)]
    refine ⟨fun r h => (by cases h), fun _ c hc => ?_⟩
    exfalso
    have h1 := hc.2.length_le
    have h2 := hc.1
    simp at h1
    omega
  | m + 1, f + 1, i, l, hf => by
    have hi : i < s.reads.length := by omega
    obtain ⟨a1, a2⟩ := struck_spec hv m (s.reads.length - (i + 1)) (i + 1) (l ++ [(s.reads.getD i default).num]) rfl
    obtain ⟨b1, b2⟩ := struck_spec hv (m + 1) f (i + 1) l (by omega)
    rw [struck_step hi]
    have hd := drop_nums hi
    -- a choice takes the reading, or does not
    have hch : ∀ c, Ch s i (m + 1) c → (∃ c', c = (s.reads.getD i default).num :: c' ∧ Ch s (i + 1) m c') ∨ Ch s (i + 1) (m + 1) c := fun c hc => by
      obtain ⟨h1, h2⟩ := hc
      rw [hd] at h2
      cases h2 with
      | cons _ h => exact .inr ⟨h1, h⟩
      | cons_cons _ h => exact .inl ⟨_, rfl, by simpa using h1, h⟩
    constructor
    · intro r h
      split at h
      · rename_i r' e
        cases h
        obtain ⟨c, hc, e1, ht, hmin⟩ := a1 _ e
        refine ⟨(s.reads.getD i default).num :: c, ⟨by simp [hc.1], by rw [hd]; exact hc.2.cons_cons _⟩, by rw [e1]; simp, ht, fun c' hc' ht' hl => ?_⟩
        rcases hch c' hc' with ⟨c2, rfl, h2⟩ | h2
        · rcases hl with h | ⟨_, h⟩
          · omega
          · exact hmin c2 h2 (by simpa using ht') h
        · cases c' with
          | nil => cases h2.1
          | cons x xs =>
            have hx := nums_gt hv hi (h2.2.subset (List.mem_cons_self ..))
            rcases hl with h | ⟨h, _⟩ <;> omega
      · rename_i e
        obtain ⟨c, hc, e1, ht, hmin⟩ := b1 _ h
        refine ⟨c, ⟨hc.1, by rw [hd]; exact hc.2.cons _⟩, e1, ht, fun c' hc' ht' hl => ?_⟩
        rcases hch c' hc' with ⟨c2, rfl, h2⟩ | h2
        · exact a2 e c2 h2 (by simpa using ht')
        · exact hmin c' h2 ht' hl
    · intro h c hc
      split at h
      · cases h
      · rename_i e
        rcases hch c hc with ⟨c2, rfl, h2⟩ | h2
        · have := a2 e c2 h2
          simpa using this
        · exact b2 h c h2
termination_by m f => (m, f)
theorem nums_asc {s : Sp} (hv : SpP s) : (numsL s).Pairwise (· < ·) := by
  unfold numsL
  rw [List.pairwise_map]
  exact (readsP_iff.1 hv.2.2).2
/-- A choice of readings may be struck. -/
theorem strike_ch {s : Sp} (hv : SpP s) {c : List Int} (h : c.Sublist (numsL s)) : strikeE s c = 0 := by
  have hp := (nums_asc hv).sublist h
  refine (fun (hok : StrikeOk s c) => ?_) (fun i hi => ⟨?_, fun h0 => ?_⟩)
  · unfold strikeE
    rw [if_neg (fun h => h hv), if_neg (not_not_intro hok)]
  · rw [List.getD_eq_getElem?_getD, List.getElem?_eq_getElem hi]
    exact h.subset (List.getElem_mem hi)
  · have := List.pairwise_iff_getElem.1 hp (i - 1) i (by omega) hi (by omega)
    simpa [hi, show i - 1 < c.length by omega] using this
theorem struck_top {s : Sp} (hv : SpP s) (m : Nat) :
    (∀ r, struckP s m 0 [] = some r → (r.length = m ∧ r.Sublist (numsL s)) ∧ TrueP (wo s r) ∧ ∀ c', c'.length = m → c'.Sublist (numsL s) → TrueP (wo s c') → ¬lexB c' r) ∧
    (struckP s m 0 [] = none → ∀ c : List Int, c.length = m → c.Sublist (numsL s) → ¬TrueP (wo s c)) := by
  obtain ⟨h1, h2⟩ := struck_spec hv m (s.reads.length - 0) 0 [] rfl
  refine ⟨fun r h => ?_, fun h c hc hs => by simpa using h2 h c ⟨hc, by simpa using hs⟩⟩
  obtain ⟨c, hc, e, ht, hm⟩ := h1 r h
  obtain rfl : r = c := e
  exact ⟨⟨hc.1, by simpa using hc.2⟩, ht, fun c' h3 h4 h5 => hm c' ⟨h3, by simpa using h4⟩ (by simpa using h5)⟩
theorem wrong_facts {s : Sp} (hv : SpP s) {o : List Int} (ho : o.Sublist (numsL s)) :
    (wrongE s = 0 → (wrongL s).Sublist (numsL s) ∧ (wrongL s).length ≤ 2 ∧ TrueP (wo s (wrongL s)) ∧ (TrueP (wo s o) → ¬befP o (wrongL s))) ∧
    (wrongE s ≠ 0 → (wrongE s = 6 ∧ ¬TrueP (wo s o)) ∨ (wrongE s = 4 ∧ (¬TrueP (wo s o) ∨ 2 < o.length))) := by
  have t0 := struck_top hv 0
  have t1 := struck_top hv 1
  have t2 := struck_top hv 2
  have hbef : ∀ r m, r.length = m → (∀ c', c'.length = m → c'.Sublist (numsL s) → TrueP (wo s c') → ¬lexB c' r) → (o.length < m → ¬TrueP (wo s o)) → TrueP (wo s o) → ¬befP o r := fun r m hr hm hsh ht hb => by
    unfold befP at hb
    split at hb
    · exact hsh (by omega) ht
    · rename_i he
      exact hm o (by omega) ho ht hb
  unfold wrongE wrongL
  rw [if_neg (fun h => h hv), if_pos hv]
  have hz : o.length = 0 ∨ o.length = 1 ∨ o.length = 2 ∨ 2 < o.length := by omega
  unfold wrongF
  cases e0 : struckP s 0 0 [] with
  | some r =>
    obtain ⟨⟨a1, a2⟩, a3, a4⟩ := t0.1 r e0
    refine ⟨fun _ => ⟨a2, by show r.length ≤ 2; omega, a3, hbef r 0 a1 a4 (fun h => by omega)⟩, fun h => absurd rfl h⟩
  | none =>
    have n0 := t0.2 e0
    cases e1 : struckP s 1 0 [] with
    | some r =>
      obtain ⟨⟨a1, a2⟩, a3, a4⟩ := t1.1 r e1
      refine ⟨fun _ => ⟨a2, by show r.length ≤ 2; omega, a3, hbef r 1 a1 a4 (fun h => n0 o (by omega) ho)⟩, fun h => absurd rfl h⟩
    | none =>
      have n1 := t1.2 e1
      cases e2 : struckP s 2 0 [] with
      | some r =>
        obtain ⟨⟨a1, a2⟩, a3, a4⟩ := t2.1 r e2
        refine ⟨fun _ => ⟨a2, by show r.length ≤ 2; omega, a3, hbef r 2 a1 a4 (fun h => by
          rcases hz with h | h | h | h
          · exact n0 o h ho
          · exact n1 o h ho
          · omega
          · omega)⟩, fun h => absurd rfl h⟩
      | none =>
        have n2 := t2.2 e2
        simp only [Option.isSome_none, Bool.false_eq_true, if_false]
        refine ⟨fun h => by split at h <;> omega, fun _ => ?_⟩
        split
        · rename_i hno
          refine .inl ⟨rfl, fun ht => hno ?_⟩
          obtain ⟨rain, t, h1, h2⟩ := (true_iff (wo_valid hv o)).1 ht
          refine (true_iff (by have := wo_valid hv (numsL s); rwa [wo_all] at this)).2 ⟨rain, t, h1, ?_⟩
          exact truth_sub (s := wo s o) (l := []) (fun x hx => by cases hx) h2
        · refine .inr ⟨rfl, ?_⟩
          rcases hz with h | h | h | h
          · exact .inl (n0 o h ho)
          · exact .inl (n1 o h ho)
          · exact .inl (n2 o h ho)
          · exact .inr h
end Go.S

/- SpringWrong: the walk. -/
namespace Go.Proofs.YtknflipongbngaaDoor
open Go.X Go.S Go.RowKit
noncomputable instance (a b : List Int) : Decidable (befP a b) := Classical.propDecidable _
/-- The reading's bit stands. -/
abbrev bitOn (bits : Int) (k : Nat) : Prop := IntKind.u16.wrap ((BitVec.ofInt IntKind.u16.bits (bits.fdiv (2 ^ (Min.min (k : Int).toNat IntKind.u16.bits))) &&& BitVec.ofInt IntKind.u16.bits 1).toNat) = 1
def bitL (s : Sp) (bits : Int) : Nat → List Int
  | 0 => []
  | k + 1 => if bitOn bits k then bitL s bits k ++ [(s.reads.getD k default).num] else bitL s bits k
theorem bitL_sub (s : Sp) (bits : Int) : ∀ k, k ≤ s.reads.length → (bitL s bits k).Sublist ((numsL s).take k)
  | 0, _ => List.nil_sublist _
  | k + 1, h => by
    have ih := bitL_sub s bits k (by omega)
    have hk : k < (numsL s).length := by simp; omega
    rw [List.take_add_one, List.getElem?_eq_getElem hk]
    have e : (numsL s)[k] = (s.reads.getD k default).num := by simp [numsL, show k < s.reads.length by omega]
    simp only [bitL]
    split
    · rw [e]; exact ih.append (List.Sublist.refl _)
    · exact ih.trans (List.sublist_append_left _ _)
theorem bitL_all (s : Sp) (bits : Int) : (bitL s bits s.reads.length).Sublist (numsL s) := by
  have := bitL_sub s bits s.reads.length (Nat.le_refl _)
  rwa [List.take_of_length_le (by simp)] at this
theorem bitL_len (s : Sp) (bits : Int) {k : Nat} (h : k ≤ s.reads.length) : (bitL s bits k).length ≤ k := by
  have := (bitL_sub s bits k h).length_le
  rw [List.length_take] at this; omega
theorem wo_len (s : Sp) (l : List Int) : (wo s l).reads.length ≤ s.reads.length := keepR_len s.reads l
theorem bt_4 : isBoolP Tryd.prog 4 = true := by kernel_rfl
theorem before_any (a b : List Int) (ao bo : Option Addr) (ac bc : Nat) (ha1 : a.length ≤ 1000000) (w : World) (h1 : RowsAt w ao 1 (ones a)) (h2 : RowsAt w bo 1 (ones b)) :
    CallsR Tryd.prog 64 [.slice ao a.length ac, .slice bo b.length bc] w (fun v _ => v = .bool (decide (befP a b))) := by
  refine CallsR.of_SX (n := 40) (rs := [.tmp 4]) Tryd.func64 rfl rfl rfl rfl ?_
  show SX _ _ _ ⟨[(0, .slice ao a.length ac), (1, .slice bo b.length bc)], [], []⟩
  refine SX.seq ?_
  refine SX.region ?_
  refine SXL.assign rfl ?_
  refine SXL.nil ?_
  refine thenQ.normal ?_
  refine SX.seq ?_
  refine SX.seq ?_
  refine SX.region ?_
  refine SXL.move rfl ?_
  refine SXL.len is_35 rfl ?_
  refine SXL.move rfl ?_
  refine SXL.len is_35 rfl ?_
  refine SXL.neqI rfl rfl ?_
  refine SXL.nil ?_
  refine thenQ.normal ?_
  refine SX.condP rfl (fun c10 => ?_) (fun c10 => ?_)
  · refine SX.seq ?_
    refine SX.region ?_
    refine SXL.move rfl ?_
    refine SXL.len is_35 rfl ?_
    refine SXL.move rfl ?_
    refine SXL.len is_35 rfl ?_
    refine SXL.lss rfl rfl ?_
    refine SXL.assign rfl ?_
    refine SXL.nil ?_
    refine thenQ.normal ?_
    refine SX.ret ?_
    refine thenQ.ret ?_
    refine retQ.one (ResAt.tmp rfl) ?_
    exact congrArg Value.bool (decide_eq_decide.2 (by
      unfold befP; rw [if_pos (by omega)]; omega))
  · refine SX.skip ?_
    refine thenQ.normal ?_
    refine SX.seq ?_
    refine SX.seq ?_
    refine SX.region ?_
    refine SXL.assign rfl ?_
    refine SXL.nil ?_
    refine thenQ.normal ?_
    refine SX.block ?_
    refine SX.loopG (α := Nat) [0, 1, 4] rfl (fun k => [(5, .int .i64 ((k : Int)))]) (fun k => []) (fun k => k ≤ a.length ∧ ∀ i, i < k → a.getD i 0 = b.getD i 0) (fun k => a.length - k) 0 ⟨Nat.zero_le _, fun _ h => absurd h (Nat.not_lt_zero _)⟩ ⟨rfl, trivial⟩ rfl ?_
    rintro k ⟨hk, hall⟩
    refine SX.seq ?_
    refine SX.seq ?_
    refine SX.region ?_
    refine SXL.move rfl ?_
    refine SXL.move rfl ?_
    refine SXL.len is_35 rfl ?_
    refine SXL.lss rfl rfl ?_
    refine SXL.nil ?_
    refine thenQ.normal ?_
    refine SX.condP rfl (fun c19 => ?_) (fun c19 => ?_)
    · refine SX.skip ?_
      refine thenQ.normal ?_
      refine SX.seq ?_
      refine SX.block ?_
      refine SX.seq ?_
      obtain ⟨x, o, hx, hm⟩ := oneI h1 (i := k) (by omega)
      obtain ⟨x2, o2, hx2, hm2⟩ := oneI h2 (i := k) (by omega)
      refine SX.draw 9 (by kernel_rfl) (by kernel_rfl) {} ?_
      refine SXA.take 0 9 rfl (by kernel_rfl) rfl ?_
      refine SXL.move rfl ?_
      refine SXL.move rfl ?_
      refine SXL.indexR el_35 rfl rfl hx (by omega) ?_
      refine SXL.load1 sh_3 rfl (hm _) ?_
      refine SXL.move rfl ?_
      refine SXL.move rfl ?_
      refine SXL.indexR el_35 rfl rfl hx2 (by omega) ?_
      refine SXL.load1 sh_3 rfl (hm2 _) ?_
      refine SXL.neqI rfl rfl ?_
      refine SXL.nil ⟨rfl, rfl, rfl, ?_⟩
      refine SXA.done (by kernel_rfl) ?_
      refine SXL.nil ?_
      refine thenQ.normal ?_
      refine SX.condP rfl (fun c30 => ?_) (fun c30 => ?_)
      · refine SX.seq ?_
        refine SX.draw 10 (by kernel_rfl) (by kernel_rfl) {} ?_
        refine SXA.take 0 10 rfl (by kernel_rfl) rfl ?_
        refine SXL.move rfl ?_
        refine SXL.move rfl ?_
        refine SXL.indexR el_35 rfl rfl hx (by omega) ?_
        refine SXL.load1 sh_3 rfl (hm _) ?_
        refine SXL.move rfl ?_
        refine SXL.move rfl ?_
        refine SXL.indexR el_35 rfl rfl hx2 (by omega) ?_
        refine SXL.load1 sh_3 rfl (hm2 _) ?_
        refine SXL.lss rfl rfl ?_
        refine SXL.assign rfl ?_
        refine SXL.nil ⟨rfl, rfl, rfl, ?_⟩
        refine SXA.done (by kernel_rfl) ?_
        refine SXL.nil ?_
        refine thenQ.normal ?_
        refine SX.ret ?_
        refine blockQ.ret ?_
        refine thenQ.ret ?_
        refine thenQ.ret ?_
        refine blockQ.ret ?_
        refine thenQ.ret ?_
        refine retQ.one (ResAt.tmp rfl) ?_
        exact congrArg Value.bool (decide_eq_decide.2 (by
          unfold befP; rw [if_neg (by omega)]; exact (lexB_at (by omega) (by omega) hall c30).symm))
      · refine SX.skip ?_
        refine blockQ.normal ?_
        refine thenQ.normal ?_
        refine SX.region ?_
        refine SXL.move rfl ?_
        refine SXL.add rfl rfl (by omega) ?_
        refine SXL.assign rfl ?_
        refine SXL.nil ?_
        refine thenQ.normal ?_
        refine ⟨k + 1, Meets.mk _ ⟨rfl, trivial⟩ ⟨rfl, rfl, rfl, trivial⟩ rfl, ?_, (by omega)⟩
        refine ⟨by omega, fun i hi => ?_⟩
        by_cases e : i = k
        · subst e; exact Decidable.not_not.1 c30
        · exact hall i (by omega)
    · refine SX.exit ?_
      refine thenQ.exit ?_
      refine thenQ.exit ?_
      refine blockQ.exit ?_
      refine thenQ.normal ?_
      refine SX.seq ?_
      refine SX.region ?_
      refine SXL.assign rfl ?_
      refine SXL.nil ?_
      refine thenQ.normal ?_
      refine SX.ret ?_
      refine retQ.one (ResAt.tmp rfl) ?_
      refine congrArg Value.bool (decide_eq_false (fun h => ?_)).symm
      unfold befP at h
      rw [if_neg (by omega)] at h
      obtain rfl : a = b := List.ext_getElem (by omega) (fun i h3 h4 => by have := hall i (by omega); simpa [h3, h4] using this)
      exact lexB_irr _ h
set_option maxHeartbeats 4000000 in
theorem wrong_law (s : Sp) (bo ro : Option Addr) (bc rc : Nat) (bits : Int) (w : World) (hg : Gl w) (hs : SpAt w s bo ro) :
    CallsR Tryd.prog 10 [.agg ⟨[.int .i64 s.weeks, .int .i64 s.most, .int .i64 s.fall, .int .i64 s.a0, .int .i64 s.a1, .int .i64 s.w0, .int .i64 s.w1, (.slice bo s.book.length bc), (.slice ro s.reads.length rc)]⟩, .int .u16 bits] w (fun v _ => v = .bool true) := by
  refine CallsR.of_SX (n := 131) (rs := [.tmp 4]) Tryd.func10 rfl rfl rfl rfl ?_
  show SX _ _ _ ⟨[(0, .agg ⟨[.int .i64 s.weeks, .int .i64 s.most, .int .i64 s.fall, .int .i64 s.a0, .int .i64 s.a1, .int .i64 s.w0, .int .i64 s.w1, (.slice bo s.book.length bc), (.slice ro s.reads.length rc)]⟩), (1, .int .u16 bits)], [], []⟩
  refine SX.seq ?_
  refine SX.region ?_
  refine SXL.box rfl rfl ?_; intro b0
  refine SXL.assign rfl ?_
  refine SXL.nil ?_
  refine thenQ.normal ?_
  refine SX.seq ?_
  refine SX.region ?_
  refine SXL.call1 (.bool (decide (True))) fn_54 rfl (fun w hI => (alive_any w (hg.inv hI)).eqv rfl) ?_
  refine SXL.assign rfl ?_
  refine SXL.nil ?_
  refine thenQ.normal ?_
  refine SX.seq ?_
  refine SX.seq ?_
  refine SX.region ?_
  refine SXL.loadNo 0 sh_27 rfl rfl rfl ?_
  refine SXL.call1 (.bool (decide (¬((30 : Int) < (s.book.length : Int) ∨ (30 : Int) < (s.reads.length : Int)) ∧ SpP s))) fn_55 rfl (fun w hI => ready_any s bo ro bc rc _ (hs.inv hI)) ?_
  refine SXL.not rfl ?_
  refine SXL.move rfl ?_
  apply SXL.orG 2
  case hl => exact rfl
  case hd => exact rfl
  case hg => exact rfl
  case ht =>
    intro c26
    refine SXL.pass rfl rfl rfl ?_
    refine SXL.pass rfl rfl rfl ?_
    exact SXL.nil (segQ.mk (.skip rfl (.skip rfl (.skip rfl (EnvSub.refl _)))) rfl rfl rfl)
  case hf =>
    intro c26
    refine SXL.move rfl ?_
    refine SXL.not rfl ?_
    exact SXL.nil (segQ.mk (.skip rfl (.skip rfl (.skip rfl (EnvSub.refl _)))) rfl rfl ⟨rfl, rfl⟩)
  refine SXL.nil ?_
  refine thenQ.normal ?_
  refine SX.condP rfl (fun c26 => ?_) (fun c26 => ?_)
  · refine SX.seq ?_
    refine SX.region ?_
    refine SXL.move rfl ?_
    refine SXL.assign rfl ?_
    refine SXL.nil ?_
    refine thenQ.normal ?_
    refine SX.ret ?_
    refine thenQ.ret ?_
    refine retQ.dead [] rfl ?_
    refine retQ.one (ResAt.tmp rfl) ?_
    first | rfl | exact congrArg Value.bool (decide_eq_true trivial)
  · refine SX.skip ?_
    refine thenQ.normal ?_
    refine SX.seq ?_
    have hpre : (¬((30 : Int) < (s.book.length : Int) ∨ (30 : Int) < (s.reads.length : Int)) ∧ SpP s) := by
          by_cases h1 : ¬((30 : Int) < (s.book.length : Int) ∨ (30 : Int) < (s.reads.length : Int)) ∧ SpP s
          · exact h1
          · exact absurd (by first | exact .inl (.inl h1) | exact .inl h1 | exact h1) c26
    obtain ⟨hgr, hv⟩ := hpre
    have hH := hv.1
    unfold HeadP at hH
    refine SX.region ?_
    refine SXL.loadNo 0 sh_27 rfl rfl rfl ?_
    refine SXL.callF (IsR2 (wrongL s) (wrongE s)) fn_34 rfl (fun w hI => swrong_any s bo ro bc rc (by omega) (by omega) w (hg.inv hI) (hs.inv hI)) ?_; rintro _ _ ⟨q0, u0, rfl, rfl⟩
    refine SXL.move rfl ?_
    refine SXL.extract rfl rfl ?_
    refine SXL.extract rfl rfl ?_
    refine SXL.assign rfl ?_
    refine SXL.assign rfl ?_
    refine SXL.nil ?_
    refine thenQ.normal ?_
    refine SX.seq ?_
    refine SX.pad (Sl.nil.ent 3 []) rfl ?_
    refine SX.region ?_
    refine SXL.assign rfl ?_
    refine SXL.nil ?_
    refine thenQ.normal ?_
    refine SX.seq ?_
    refine SX.seq ?_
    refine SX.region ?_
    refine SXL.fieldAddr fp_27_6 rfl ?_
    refine SXL.load1o 0 sh_25 rfl rfl rfl ?_
    refine SXL.len is_25 rfl ?_
    refine SXL.move rfl ?_
    refine SXL.nil ?_
    refine thenQ.normal ?_
    refine SX.block ?_
    refine SX.loopW (α := Nat × Sl × Nat × List Value) [1, 2, 4, 5, 6, 7, 34, 35] rfl (fun ⟨k, q, n, c⟩ => [(36, .int .i64 ((k : Int))), (8, q.val n)]) (fun ⟨k, q, n, c⟩ => [(b0, .cells ⟨[.int .i64 s.weeks, .int .i64 s.most, .int .i64 s.fall, .int .i64 s.a0, .int .i64 s.a1, .int .i64 s.w0, .int .i64 s.w1, (.slice bo s.book.length bc), (.slice ro s.reads.length rc)]⟩ 27 (0, 0)), q0.ent 3 (ints (wrongL s)), q.ent 3 c]) (fun ⟨k, q, n, c⟩ => []) (fun ⟨k, q, n, c⟩ => k ≤ s.reads.length ∧ q.Ok n 1 c ∧ c = ints (bitL s bits k)) (fun ⟨k, q, n, c⟩ => s.reads.length - k) (0, Sl.nil, 0, []) ⟨Nat.zero_le _, .none _, rfl⟩ ⟨rfl, rfl, trivial⟩ rfl ?_
    rintro ⟨k, q, n, c⟩ ⟨hkl, ho, rfl⟩
    have hn1 := Ok.n ho
    have hrl := bitL_len s bits hkl
    refine SX.seq ?_
    refine SX.region ?_
    refine SXL.lss rfl rfl ?_
    refine SXL.nil ?_
    refine thenQ.normal ?_
    refine SX.seq ?_
    refine SX.condP rfl (fun c3 => ?_) (fun c3 => ?_)
    · refine SX.skip ?_
      refine thenQ.normal ?_
      refine SX.seq ?_
      refine SX.block ?_
      refine SX.seq ?_
      have hk : k < s.reads.length := by omega
      obtain ⟨b, o, ha, hm⟩ := hs.readD hk
      refine SX.region ?_
      refine SXL.move rfl ?_
      refine SXL.indexR el_25 rfl rfl ha (by omega) ?_
      refine SXL.loadN sh_54 rfl (hm _) rfl ?_
      refine SXL.alloc zp_54 ?_; intro b3
      refine SXL.assign rfl ?_
      refine SXL.store 3 sz_54 rfl rfl rfl rfl rfl rfl ?_
      refine SXL.nil ?_
      refine thenQ.normal ?_
      refine SX.seq ?_
      refine SX.region ?_
      refine SXL.move rfl ?_
      refine SXL.move rfl ?_
      refine SXL.shr rfl rfl (by omega) ?_
      refine SXL.and rfl rfl ?_
      refine SXL.eqlI rfl rfl ?_
      refine SXL.nil ?_
      refine thenQ.normal ?_
      refine SX.condP rfl (fun c45 => ?_) (fun c45 => ?_)
      · refine SX.region ?_
        refine SXL.move rfl ?_
        refine SXL.fieldAddr fp_54_0 rfl ?_
        refine SXL.load1o 3 sh_3 rfl rfl rfl ?_
        refine SXL.buildSlice et_35 zp_3 rfl rfl rfl rfl ?_; intro b4
        refine SXL.append 2 ap_35 rfl rfl ho rfl (.inr ⟨_, _, rfl, Mem.own (i := 4) rfl (takeAt_all _)⟩) rfl rfl ⟨by simp only [maxLen]; omega, by omega⟩ ?_; intro r_50 o_50
        refine SXL.assign rfl ?_
        refine SXL.nil ?_
        refine blockQ.normal ?_
        refine thenQ.normal ?_
        refine SX.region ?_
        refine SXL.add rfl rfl (by omega) ?_
        refine SXL.move rfl ?_
        refine SXL.nil ?_
        refine thenQ.normal ?_
        refine ⟨(k + 1, _, _, _), MeetsW.mkP _ ⟨rfl, rfl, trivial⟩ ⟨rfl, rfl, rfl, rfl, rfl, rfl, rfl, rfl, trivial⟩ rfl, ?_, (show s.reads.length - (k + 1) < s.reads.length - k by omega)⟩
        first
          | exact ⟨by omega, o_50, by simp only [bitL]; rw [if_pos c45]; simp [ints]⟩
          | exact ⟨by omega, ho, by simp only [bitL]; rw [if_neg c45]⟩
      · refine SX.skip ?_
        refine blockQ.normal ?_
        refine thenQ.normal ?_
        refine SX.region ?_
        refine SXL.add rfl rfl (by omega) ?_
        refine SXL.move rfl ?_
        refine SXL.nil ?_
        refine thenQ.normal ?_
        refine ⟨(k + 1, _, _, _), MeetsW.mkP _ ⟨rfl, rfl, trivial⟩ ⟨rfl, rfl, rfl, rfl, rfl, rfl, rfl, rfl, trivial⟩ rfl, ?_, (show s.reads.length - (k + 1) < s.reads.length - k by omega)⟩
        first
          | exact ⟨by omega, o_50, by simp only [bitL]; rw [if_pos c45]; simp [ints]⟩
          | exact ⟨by omega, ho, by simp only [bitL]; rw [if_neg c45]⟩
    · refine SX.exit ?_
      refine thenQ.exit ?_
      refine thenQ.exit ?_
      refine blockQ.exit ?_
      refine thenQ.normal ?_
      refine SX.seq ?_
      obtain rfl : k = s.reads.length := by omega
      have hn1 := Ok.n ho
      subst hn1
      have hsub := bitL_all s bits
      have hst := strike_ch hv hsub
      obtain ⟨wf1, wf2⟩ := wrong_facts hv hsub
      have hol := bitL_len s bits (Nat.le_refl s.reads.length)
      refine SX.region ?_
      refine SXL.loadNo 0 sh_27 rfl rfl rfl ?_
      refine SXL.move rfl ?_
      refine SXL.callF (SpE (wo s (bitL s bits s.reads.length)) 0) fn_40 rfl (fun w hI => (sstrike_any s bo ro bc rc (bitL s bits s.reads.length) q.addr q.cap (by omega) (by omega) (by omega) w (hg.inv hI) (hs.inv hI) (slOnes hI ho (i := 2) rfl)).mono (fun v own h => by rw [strike_ok hst, hst] at h; exact h)) ?_; rintro _ _ ⟨r1, r2, or1, or2, rfl, rfl⟩
      refine SXL.move rfl ?_
      refine SXL.extract rfl rfl ?_
      refine SXL.extract rfl rfl ?_
      refine SXL.alloc zp_27 ?_; intro b5
      refine SXL.store 5 sz_27 rfl rfl rfl rfl rfl rfl ?_
      refine SXL.assign rfl ?_
      refine SXL.nil ?_
      refine thenQ.normal ?_
      refine SX.seq ?_
      refine SX.region ?_
      refine SXL.loadNo 5 sh_27 rfl rfl rfl ?_
      refine SXL.call1 (.tuple ⟨[.bool (decide (TrueP (wo s (bitL s bits s.reads.length)))), .int .i64 0]⟩) fn_18 rfl (fun w hI => (scan_any (wo s (bitL s bits s.reads.length)) r1.addr r2.addr r1.cap r2.cap (show s.book.length ≤ _ by omega) (by have := wo_len s (bitL s bits s.reads.length); omega) _ (hg.inv hI) (spAtOwn hI or1 or2 (i := 3) (j := 4) rfl rfl)).eqv (by rw [if_pos (wo_valid hv _)]; simp [wo_valid hv])) ?_
      refine SXL.move rfl ?_
      refine SXL.extract rfl rfl ?_
      refine SXL.extract rfl rfl ?_
      refine SXL.assign rfl ?_
      refine SXL.assign rfl ?_
      refine SXL.nil ?_
      refine thenQ.normal ?_
      refine SX.seq ?_
      refine SX.seq ?_
      refine SX.region ?_
      refine SXL.move rfl ?_
      refine SXL.neqI rfl rfl ?_
      refine SXL.move rfl ?_
      apply SXL.orG 2
      case hl => exact rfl
      case hd => exact rfl
      case hg => exact rfl
      case ht =>
        intro c68
        refine SXL.pass rfl rfl rfl ?_
        refine SXL.pass rfl rfl rfl ?_
        exact SXL.nil (segQ.mk (.skip rfl (.skip rfl (.skip rfl (EnvSub.refl _)))) rfl rfl rfl)
      case hf =>
        intro c68
        refine SXL.move rfl ?_
        refine SXL.neqI rfl rfl ?_
        exact SXL.nil (segQ.mk (.skip rfl (.skip rfl (.skip rfl (EnvSub.refl _)))) rfl rfl ⟨rfl, rfl⟩)
      refine SXL.nil ?_
      refine thenQ.normal ?_
      refine SX.condP rfl (fun c68 => ?_) (fun c68 => ?_)
      · exfalso; omega
      refine SX.skip ?_
      refine thenQ.normal ?_
      refine SX.seq ?_
      refine SX.seq ?_
      refine SX.region ?_
      refine SXL.move rfl ?_
      refine SXL.neqI rfl rfl ?_
      refine SXL.nil ?_
      refine thenQ.normal ?_
      refine SX.condP rfl (fun c70 => ?_) (fun c70 => ?_)
      · refine SX.seq ?_
        refine SX.region ?_
        refine SXL.move rfl ?_
        refine SXL.move rfl ?_
        apply SXL.andG 19
        case hl => exact rfl
        case hd => exact rfl
        case hg => exact rfl
        case ht =>
          intro g8
          refine SXL.move rfl ?_
          refine SXL.eqlI rfl rfl ?_
          refine SXL.move rfl ?_
          apply SXL.andG 2
          case hl => exact rfl
          case hd => exact rfl
          case hg => exact rfl
          case ht =>
            intro g9
            refine SXL.move rfl ?_
            refine SXL.not rfl ?_
            exact SXL.nil (segQ.mk (.skip rfl (.skip rfl (.skip rfl (EnvSub.refl _)))) rfl rfl ⟨rfl, rfl⟩)
          case hf =>
            intro g9
            refine SXL.pass rfl rfl rfl ?_
            refine SXL.pass rfl rfl rfl ?_
            exact SXL.nil (segQ.mk (.skip rfl (.skip rfl (.skip rfl (EnvSub.refl _)))) rfl rfl rfl)
          refine SXL.move rfl ?_
          apply SXL.orG 11
          case hl => exact rfl
          case hd => exact rfl
          case hg => exact rfl
          case ht =>
            intro g10
            refine SXL.pass rfl rfl rfl ?_
            refine SXL.pass rfl rfl rfl ?_
            refine SXL.pass rfl rfl rfl ?_
            refine SXL.pass rfl rfl rfl ?_
            refine SXL.pass rfl rfl rfl ?_
            refine SXL.pass rfl rfl rfl ?_
            refine SXL.pass rfl rfl rfl ?_
            refine SXL.pass rfl rfl rfl ?_
            refine SXL.pass rfl rfl rfl ?_
            refine SXL.pass rfl rfl rfl ?_
            refine SXL.pass rfl rfl rfl ?_
            exact SXL.nil (segQ.mk (.skip rfl (.skip rfl (.skip rfl (.skip rfl (.skip rfl (.skip rfl (.skip rfl (.skip rfl (.skip rfl (.skip rfl (.skip rfl (.skip rfl (EnvSub.refl _))))))))))))) rfl rfl rfl)
          case hf =>
            intro g10
            refine SXL.move rfl ?_
            refine SXL.eqlI rfl rfl ?_
            refine SXL.move rfl ?_
            apply SXL.andG 7
            case hl => exact rfl
            case hd => exact rfl
            case hg => exact rfl
            case ht =>
              intro g11
              refine SXL.move rfl ?_
              refine SXL.not rfl ?_
              refine SXL.move rfl ?_
              apply SXL.orG 3
              case hl => exact rfl
              case hd => exact rfl
              case hg => exact rfl
              case ht =>
                intro g12
                refine SXL.pass rfl rfl rfl ?_
                refine SXL.pass rfl rfl rfl ?_
                refine SXL.pass rfl rfl rfl ?_
                exact SXL.nil (segQ.mk (.skip rfl (.skip rfl (.skip rfl (.skip rfl (EnvSub.refl _))))) rfl rfl rfl)
              case hf =>
                intro g12
                refine SXL.move rfl ?_
                refine SXL.len is_35 rfl ?_
                refine SXL.gtr rfl rfl ?_
                exact SXL.nil (segQ.mk (.skip rfl (.skip rfl (.skip rfl (.skip rfl (EnvSub.refl _))))) rfl rfl ⟨rfl, rfl⟩)
              exact SXL.nil (segQ.mk (.skip rfl (.skip rfl (.skip rfl (.skip rfl (EnvSub.refl _))))) rfl rfl ⟨rfl, rfl⟩)
            case hf =>
              intro g11
              refine SXL.pass rfl rfl rfl ?_
              refine SXL.pass rfl rfl rfl ?_
              refine SXL.pass rfl rfl rfl ?_
              refine SXL.pass rfl rfl rfl ?_
              refine SXL.pass rfl rfl rfl ?_
              refine SXL.pass rfl rfl rfl ?_
              refine SXL.pass rfl rfl rfl ?_
              exact SXL.nil (segQ.mk (.skip rfl (.skip rfl (.skip rfl (.skip rfl (.skip rfl (.skip rfl (.skip rfl (.skip rfl (EnvSub.refl _))))))))) rfl rfl rfl)
            exact SXL.nil (segQ.mk (.skip rfl (.skip rfl (.skip rfl (.skip rfl (EnvSub.refl _))))) rfl rfl ⟨rfl, rfl⟩)
          exact SXL.nil (segQ.mk (.skip rfl (.skip rfl (.skip rfl (.skip rfl (.skip rfl (EnvSub.refl _)))))) rfl rfl ⟨rfl, rfl⟩)
        case hf =>
          intro g8
          refine SXL.pass rfl rfl rfl ?_
          refine SXL.pass rfl rfl rfl ?_
          refine SXL.pass rfl rfl rfl ?_
          refine SXL.pass rfl rfl rfl ?_
          refine SXL.pass rfl rfl rfl ?_
          refine SXL.pass rfl rfl rfl ?_
          refine SXL.pass rfl rfl rfl ?_
          refine SXL.pass rfl rfl rfl ?_
          refine SXL.pass rfl rfl rfl ?_
          refine SXL.pass rfl rfl rfl ?_
          refine SXL.pass rfl rfl rfl ?_
          refine SXL.pass rfl rfl rfl ?_
          refine SXL.pass rfl rfl rfl ?_
          refine SXL.pass rfl rfl rfl ?_
          refine SXL.pass rfl rfl rfl ?_
          refine SXL.pass rfl rfl rfl ?_
          refine SXL.pass rfl rfl rfl ?_
          refine SXL.pass rfl rfl rfl ?_
          refine SXL.pass rfl rfl rfl ?_
          exact SXL.nil (segQ.mk (.skip rfl (.skip rfl (.skip rfl (.skip rfl (.skip rfl (.skip rfl (.skip rfl (.skip rfl (.skip rfl (.skip rfl (.skip rfl (.skip rfl (.skip rfl (.skip rfl (.skip rfl (.skip rfl (.skip rfl (.skip rfl (.skip rfl (.skip rfl (EnvSub.refl _))))))))))))))))))))) rfl rfl rfl)
        refine SXL.assign rfl ?_
        refine SXL.nil ?_
        refine thenQ.normal ?_
        refine SX.ret ?_
        refine thenQ.ret ?_
        refine retQ.dead [] rfl ?_
        refine retQ.one (ResAt.tmp rfl) ?_
        refine congrArg Value.bool (decide_eq_true ⟨trivial, ?_⟩)
        rcases wf2 c70 with ⟨h1, h2⟩ | ⟨h1, h2 | h2⟩
        · exact .inl ⟨h1, h2⟩
        · exact .inr ⟨h1, .inl h2⟩
        · exact .inr ⟨h1, .inr (by omega)⟩
      · refine SX.skip ?_
        refine thenQ.normal ?_
        refine SX.seq ?_
        obtain ⟨ws1, ws2, ws3, ws4⟩ := wf1 (Decidable.not_not.1 c70)
        have hst2 := strike_ch hv ws1
        refine SX.region ?_
        refine SXL.loadNo 0 sh_27 rfl rfl rfl ?_
        refine SXL.move rfl ?_
        refine SXL.callF (SpE (wo s (wrongL s)) 0) fn_40 rfl (fun w hI => (sstrike_any s bo ro bc rc (wrongL s) q0.addr q0.cap (by omega) (by omega) (by omega) w (hg.inv hI) (hs.inv hI) (slOnes hI u0 (i := 1) rfl)).mono (fun v own h => by rw [strike_ok hst2, hst2] at h; exact h)) ?_; rintro _ _ ⟨p1, p2, op1, op2, rfl, rfl⟩
        refine SXL.move rfl ?_
        refine SXL.extract rfl rfl ?_
        refine SXL.extract rfl rfl ?_
        refine SXL.alloc zp_27 ?_; intro b8
        refine SXL.store 8 sz_27 rfl rfl rfl rfl rfl rfl ?_
        refine SXL.assign rfl ?_
        refine SXL.nil ?_
        refine thenQ.normal ?_
        refine SX.seq ?_
        refine SX.region ?_
        refine SXL.loadNo 8 sh_27 rfl rfl rfl ?_
        refine SXL.call1 (.tuple ⟨[.bool (decide (TrueP (wo s (wrongL s)))), .int .i64 0]⟩) fn_18 rfl (fun w hI => (scan_any (wo s (wrongL s)) p1.addr p2.addr p1.cap p2.cap (show s.book.length ≤ _ by omega) (by have := wo_len s (wrongL s); omega) _ (hg.inv hI) (spAtOwn hI op1 op2 (i := 6) (j := 7) rfl rfl)).eqv (by rw [if_pos (wo_valid hv _)]; simp [wo_valid hv])) ?_
        refine SXL.move rfl ?_
        refine SXL.extract rfl rfl ?_
        refine SXL.extract rfl rfl ?_
        refine SXL.assign rfl ?_
        refine SXL.assign rfl ?_
        refine SXL.nil ?_
        refine thenQ.normal ?_
        refine SX.seq ?_
        refine SX.region ?_
        refine SXL.move rfl ?_
        refine SXL.move rfl ?_
        apply SXL.andG 2
        case hl => exact rfl
        case hd => exact rfl
        case hg => exact rfl
        case ht =>
          intro g13
          refine SXL.move rfl ?_
          refine SXL.eqlI rfl rfl ?_
          exact SXL.nil (segQ.mk (.skip rfl (.skip rfl (.skip rfl (EnvSub.refl _)))) rfl rfl ⟨rfl, rfl⟩)
        case hf =>
          intro g13
          refine SXL.pass rfl rfl rfl ?_
          refine SXL.pass rfl rfl rfl ?_
          exact SXL.nil (segQ.mk (.skip rfl (.skip rfl (.skip rfl (EnvSub.refl _)))) rfl rfl rfl)
        refine SXL.move rfl ?_
        apply SXL.andG 2
        case hl => exact rfl
        case hd => exact rfl
        case hg => exact rfl
        case ht =>
          intro g14
          refine SXL.move rfl ?_
          refine SXL.eqlI rfl rfl ?_
          exact SXL.nil (segQ.mk (.skip rfl (.skip rfl (.skip rfl (EnvSub.refl _)))) rfl rfl ⟨rfl, rfl⟩)
        case hf =>
          intro g14
          refine SXL.pass rfl rfl rfl ?_
          refine SXL.pass rfl rfl rfl ?_
          exact SXL.nil (segQ.mk (.skip rfl (.skip rfl (.skip rfl (EnvSub.refl _)))) rfl rfl rfl)
        refine SXL.move rfl ?_
        apply SXL.andG 1
        case hl => exact rfl
        case hd => exact rfl
        case hg => exact rfl
        case ht =>
          intro g15
          refine SXL.move rfl ?_
          exact SXL.nil (segQ.mk (.skip rfl (.skip rfl (EnvSub.refl _))) rfl rfl ⟨rfl, rfl⟩)
        case hf =>
          intro g15
          refine SXL.pass rfl rfl rfl ?_
          exact SXL.nil (segQ.mk (.skip rfl (.skip rfl (EnvSub.refl _))) rfl rfl rfl)
        refine SXL.move rfl ?_
        apply SXL.andG 3
        case hl => exact rfl
        case hd => exact rfl
        case hg => exact rfl
        case ht =>
          intro g16
          refine SXL.move rfl ?_
          refine SXL.len is_35 rfl ?_
          refine SXL.leq rfl rfl ?_
          exact SXL.nil (segQ.mk (.skip rfl (.skip rfl (.skip rfl (.skip rfl (EnvSub.refl _))))) rfl rfl ⟨rfl, rfl⟩)
        case hf =>
          intro g16
          refine SXL.pass rfl rfl rfl ?_
          refine SXL.pass rfl rfl rfl ?_
          refine SXL.pass rfl rfl rfl ?_
          exact SXL.nil (segQ.mk (.skip rfl (.skip rfl (.skip rfl (.skip rfl (EnvSub.refl _))))) rfl rfl rfl)
        refine SXL.move rfl ?_
        apply SXL.andG 8
        case hl => exact rfl
        case hd => exact rfl
        case hg => exact rfl
        case ht =>
          intro g17
          refine SXL.move rfl ?_
          refine SXL.not rfl ?_
          refine SXL.move rfl ?_
          apply SXL.orG 4
          case hl => exact rfl
          case hd => exact rfl
          case hg => exact rfl
          case ht =>
            intro g18
            refine SXL.pass rfl rfl rfl ?_
            refine SXL.pass rfl rfl rfl ?_
            refine SXL.pass rfl rfl rfl ?_
            refine SXL.pass rfl rfl rfl ?_
            exact SXL.nil (segQ.mk (.skip rfl (.skip rfl (.skip rfl (.skip rfl (.skip rfl (EnvSub.refl _)))))) rfl rfl rfl)
          case hf =>
            intro g18
            refine SXL.move rfl ?_
            refine SXL.move rfl ?_
            refine SXL.call1 (.bool (decide (befP (bitL s bits s.reads.length) (wrongL s)))) fn_64 rfl (fun w hI => before_any (bitL s bits s.reads.length) (wrongL s) q.addr q0.addr q.cap q0.cap (by omega) _ (slOnes hI ho (i := 2) rfl) (slOnes hI u0 (i := 1) rfl)) ?_
            refine SXL.not rfl ?_
            exact SXL.nil (segQ.mk (.skip rfl (.skip rfl (.skip rfl (.skip rfl (.skip rfl (EnvSub.refl _)))))) rfl rfl ⟨rfl, rfl⟩)
          exact SXL.nil (segQ.mk (.skip rfl (.skip rfl (.skip rfl (.skip rfl (EnvSub.refl _))))) rfl rfl ⟨rfl, rfl⟩)
        case hf =>
          intro g17
          refine SXL.pass rfl rfl rfl ?_
          refine SXL.pass rfl rfl rfl ?_
          refine SXL.pass rfl rfl rfl ?_
          refine SXL.pass rfl rfl rfl ?_
          refine SXL.pass rfl rfl rfl ?_
          refine SXL.pass rfl rfl rfl ?_
          refine SXL.pass rfl rfl rfl ?_
          refine SXL.pass rfl rfl rfl ?_
          exact SXL.nil (segQ.mk (.skip rfl (.skip rfl (.skip rfl (.skip rfl (.skip rfl (.skip rfl (.skip rfl (.skip rfl (.skip rfl (EnvSub.refl _)))))))))) rfl rfl rfl)
        refine SXL.assign rfl ?_
        refine SXL.nil ?_
        refine thenQ.normal ?_
        refine SX.ret ?_
        refine retQ.dead [] rfl ?_
        refine retQ.one (ResAt.tmp rfl) ?_
        refine congrArg Value.bool (decide_eq_true ⟨⟨⟨⟨⟨trivial, rfl⟩, rfl⟩, ws3⟩, by omega⟩, ?_⟩)
        by_cases h : TrueP (wo s (bitL s bits s.reads.length))
        · exact .inr (ws4 h)
        · exact .inl h
end Go.Proofs.YtknflipongbngaaDoor

/- SpringWrong: whatever the input, the law returns true and the input reads as it did. Its condition: the package's variables are as the program's text lays them (the card ties them). -/
namespace Go.Proofs.YtknflipongbngaaDoor.SpringWrong
open Go Go.X Go.S Go.RowKit Go.ChangeShapes Go.WideShapes Go.ChangeAt
set_option maxRecDepth 100000
/-- The door's own heap meets the condition. -/
theorem door_met (os : Os) (args : Array Value) : laidMetH Tryd.prog Rows.springWrongRow.laid ((World.doorLaid Tryd.prog 24 os).forCall (fun _ _ => 0) ⟨#[], args, []⟩).memory :=
  laidMetH_of_parts3 (fuel := 8) (laidMet_of_run' 8 (by kernel_rfl) (by kernel_rfl)) (by kernel_rfl) (by kernel_rfl)
theorem spec_fn (H : Type) (ds : List (DataW H)) (h : ds.length = Tryd.f10.params.toList.length) : Rows.springWrongSpec.fn H ds = { results := [.lit (.bool true)], args := ds } := by
  rw [Tryd.params10] at h
  match ds, h with
  | [e0, e1], _ => rfl
theorem contract (H : Type) (enc : TypeId × Value → H) (W : World) (base : Nat) (args : Array Value) (ds gs : List (DataW H)) (before : List MemPlace)
    (hval : ∀ (j : Nat) t v, Tryd.f10.params[j]? = some t → args[j]? = some v → Value.okWide Tryd.prog W .any base t v)
    (hW : DataW.Whole enc Tryd.prog Tryd.f10.params.toList Rows.springWrongSpec.vars false W args.toList ds gs before) (hL : laidMetH Tryd.prog Rows.springWrongRow.laid W) :
    Calls Tryd.prog 10 args W fun e W' => ∃ v, e = .returned v ∧ Rows.springWrongSpec.post enc Tryd.prog Tryd.f10 false true false false W args v W' := by
  have hW' := hW
  obtain ⟨p, q, hA0, hV, rfl, hfz, hnd⟩ := hW
  have hA : DataW.TrodAll enc Tryd.prog W 0 (fun _ => true) true Tryd.f10.params.toList args.toList ds p := hA0
  rw [Tryd.params10] at hA hval
  obtain ⟨v0, vs0, d0, ds0, p0, q0, hv0, rfl, hp0, h0, r0⟩ := trodAll_cons hA
  obtain ⟨v1, vs1, d1, ds1, p1, q1, hv1, rfl, hp1, h1, r1⟩ := trodAll_cons r0
  obtain ⟨hvn, rfl, hpn⟩ := trodAll_nil r1
  have hargs : args = #[v0, v1] := by cases args; simp_all
  subst hargs
  obtain ⟨cs0, rfl, hf0⟩ := arg_struct lay27 ⟨_, Tryd.underlying27⟩ (hval 0 27 _ rfl rfl) h0
  obtain ⟨s, bo, ro, bc, rc, rfl, hs⟩ := sp_of_fits hf0
  obtain ⟨bits, rfl, bbits⟩ := fit_u16 (arg_cell lay100 (by kernel_rfl) (hval 1 100 _ rfl rfl) h1)
  have hg : Gl W := ⟨checks_of_laid hL (by simp [Rows.springWrongRow]), none_of_laid hL rfl⟩
  refine Calls.mono (show Calls Tryd.prog 10 _ W _ from wrong_law s bo ro bc rc bits W hg hs) ?_
  rintro e W' ⟨v, own, rfl, hI, rfl⟩
  exact ⟨_, rfl, law_post laidOut (by rw [Tryd.params10]; kernel_rfl) rfl (spec_fn H) (tb := 4) (by kernel_rfl) Tryd.underlying4 hW' hI.below⟩
theorem lifted (os : Os) (started : os.Started) (H : Type) (enc : TypeId × Value → H) :
    ReturnsInHanded {} Tryd.checked os 10 .any (fun w args => (Rows.springWrongSpec.pre enc Tryd.prog Tryd.f10 [] false w args ∧ laidMetH Tryd.prog Rows.springWrongRow.laid w) ∧ sizedMet enc Tryd.prog Tryd.f10 (OpenSpec.ofChange Rows.springWrongSpec) false w args)
      (Rows.springWrongSpec.post enc Tryd.prog Tryd.f10 false true false false) := by
  refine returnsInHanded_of_change_and (C := Tryd.checked) (X := fun w _ => laidMetH Tryd.prog Rows.springWrongRow.laid w) (fun _ _ _ hh h => h.of_heap hh) ownGd started (by kernel_rfl) Tryd.func10
    (ChangeSpec.witness_shaped (enc := enc) (C := Tryd.checked) (os := os) (X := fun w _ => laidMetH Tryd.prog Rows.springWrongRow.laid w) false (World.doorLaid Tryd.prog 24 os) #[.agg ⟨[.int .i64 0, .int .i64 0, .int .i64 0, .int .i64 0, .int .i64 0, .int .i64 0, .int .i64 0, .slice none 0 0, .slice none 0 0]⟩, .int .u16 0] 8 rfl (World.shaped_of_RefB (by kernel_rfl) (by kernel_rfl)) (by kernel_rfl) (by kernel_rfl) (by kernel_rfl) (door_met os _)) ?_
  intro W base args ds gs before hval0 hW _ _ hL _
  exact contract H enc W base args ds gs before hval0 hW hL
theorem said : Rows.SpringWrongSaid :=
  OpenClaim.holds_of_wide 10 Tryd.f10 rfl rfl rfl rfl rfl rfl rfl ⟨rfl, rfl, rfl, rfl, rfl⟩ rfl rfl rfl rfl rfl (by kernel_rfl) Tryd.func10 (by kernel_rfl)
    (of_decide_eq_true (by kernel_rfl)) (by unfold Func.isWrapper; first | (rw [if_pos (by decide +kernel)]; kernel_rfl) | (rw [if_neg (by decide +kernel)]; exact ⟨rfl, rfl⟩))
    (fun os started H enc _ => lifted os started H enc)
theorem plain (f : FuncId) (fn : Func) (hf : Tryd.pinned.checked.prog.funcNamed "aguador/aguadorlaw01.SpringWrong" = some f) (hfn : Tryd.pinned.checked.prog.funcs[f]? = some fn) :
    false = Tryd.pinned.checked.prog.looks [] ∧ ∀ (j : Nat) t, fn.params[j]? = some t → Tryd.pinned.checked.prog.wantsStandIn t = false := by
  obtain rfl : f = 10 := Option.some.inj ((show Tryd.prog.funcNamed "aguador/aguadorlaw01.SpringWrong" = some 10 by kernel_rfl).symm.trans hf) |>.symm
  obtain rfl : fn = Tryd.f10 := (Option.some.inj (Tryd.func10.symm.trans hfn)).symm
  refine ⟨by kernel_rfl, fun j t ht => ?_⟩
  rw [Tryd.params10] at ht
  have hm : t ∈ ([27, 100] : List TypeId) := by simpa using Array.mem_of_getElem? ht
  have hall : (([27, 100] : List TypeId).all fun u => !Tryd.prog.wantsStandIn u) = true := by kernel_rfl
  exact (show Tryd.prog.wantsStandIn t = false by simpa using List.all_eq_true.1 hall t hm)
theorem springWrong_card : Rows.SpringWrongCardSaid :=
  Claim7.holds_tied_plain_at .later [] _ _ _ _ said (fun _ h => by cases h) (by kernel_rfl) (fun _ h => by cases h) springWrong_row_tie rfl ⟨rfl, rfl⟩ (by kernel_rfl) rfl plain (by kernel_rfl)
end Go.Proofs.YtknflipongbngaaDoor.SpringWrong
