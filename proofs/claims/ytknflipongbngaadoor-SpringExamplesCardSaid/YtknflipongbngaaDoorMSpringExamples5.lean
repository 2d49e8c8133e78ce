/- SpringExamples: whatever the input, the law returns true and the input reads as it did. Its condition: the package's variables are as the program's text lays them (the card ties them). -/
import Derived.Test.YtknflipongbngaaDoorMSpringExamples4
import Derived.SevenTiedAt
/- SpringExamples: the walk. -/
namespace Go.Proofs.YtknflipongbngaaDoor
open Go.X Go.S Go.RowKit
set_option maxHeartbeats 4000000 in
set_option maxRecDepth 100000 in
theorem examples_law (w : World) (hg : Gl w) :
    CallsR Tryd.prog 14 [] w (fun v _ => v = .bool true) := by
  refine CallsR.of_SX (n := 402) (rs := [.tmp 0]) Tryd.func14 rfl rfl rfl rfl ?_
  show SX _ _ _ ⟨[], [], []⟩
  refine SX.seq ?_
  refine SX.region ?_
  refine SXL.assign rfl ?_
  refine SXL.nil ?_
  refine thenQ.normal ?_
  refine SX.seq ?_
  refine SX.seq ?_
  refine SX.region ?_
  refine SXL.move rfl ?_
  refine SXL.call1 (.bool true) fn_54 rfl (fun w hI => alive_any w (hg.inv hI)) ?_
  refine SXL.notF rfl ?_
  refine SXL.pickAt (EnvSub.refl _) rfl rfl ?_ rfl rfl
  refine SXL.nil ?_
  refine thenQ.normal ?_
  refine SX.condP (p := False) rfl (fun c50 => ?_) (fun c50 => ?_)
  · exfalso; exact c50
  refine SX.skip ?_
  refine thenQ.normal ?_
  refine SX.cutW (α := Nat) [0] rfl (fun b1 => [(1, .pointer (some ⟨b1, 0, none⟩)), (2, .int .i64 0)]) (fun b1 => [(b1, .cells ⟨[.int .i64 26, .int .i64 33]⟩ 23 (0, 0))]) (fun b1 => []) (fun b1 => True) ?_ ?_
  · refine SX.region ?_
    refine SXL.callF (SpR fnt) fn_67 rfl (fun w hI => fountain_any [] none 0 (by simp) w (.nil _ _ _)) ?_; rintro _ _ ⟨ra52, rb52, oa52, ob52, rfl, rfl⟩
    refine SXL.call1 (.tuple ⟨[.agg ⟨[.int .i64 26, .int .i64 33]⟩, .int .i64 0]⟩) fn_22 rfl (fun w hI => (sgives_any fnt ra52.addr rb52.addr ra52.cap rb52.cap 0 (by decide) (by decide) _ (hg.inv hI) (spAtOwn hI oa52 ob52 (i := 0) (j := 1) rfl rfl)).eqv (by rw [ey_g0.1, ey_g0.2.1, ey_g0.2.2])) ?_
    refine SXL.move rfl ?_
    refine SXL.extract rfl rfl ?_
    refine SXL.extract rfl rfl ?_
    refine SXL.alloc zp_23 ?_; intro b2
    refine SXL.store 2 sz_23 rfl rfl rfl rfl rfl rfl ?_
    refine SXL.assign rfl ?_
    refine SXL.nil ?_
    refine thenQ.normal ?_
    refine ⟨(_), MeetsW.mkS [2] ⟨rfl, rfl, trivial⟩ ⟨rfl, trivial⟩ rfl, trivial⟩
  rintro b1 _
  refine SX.cutW (α := Nat) [0, 1, 2] rfl (fun b3 => [(3, .pointer (some ⟨b3, 0, none⟩)), (4, .int .i64 0)]) (fun b3 => [(b1, .cells ⟨[.int .i64 26, .int .i64 33]⟩ 23 (0, 0)), (b3, .cells ⟨[.int .i64 10, .int .i64 25]⟩ 23 (0, 0))]) (fun b3 => []) (fun b3 => True) ?_ ?_
  · refine SX.region ?_
    refine SXL.callF (SpR fnt) fn_67 rfl (fun w hI => fountain_any [] none 0 (by simp) w (.nil _ _ _)) ?_; rintro _ _ ⟨ra57, rb57, oa57, ob57, rfl, rfl⟩
    refine SXL.call1 (.tuple ⟨[.agg ⟨[.int .i64 10, .int .i64 25]⟩, .int .i64 0]⟩) fn_22 rfl (fun w hI => (sgives_any fnt ra57.addr rb57.addr ra57.cap rb57.cap 2 (by decide) (by decide) _ (hg.inv hI) (spAtOwn hI oa57 ob57 (i := 1) (j := 2) rfl rfl)).eqv (by rw [ey_g2.1, ey_g2.2.1, ey_g2.2.2])) ?_
    refine SXL.move rfl ?_
    refine SXL.extract rfl rfl ?_
    refine SXL.extract rfl rfl ?_
    refine SXL.alloc zp_23 ?_; intro b3
    refine SXL.store 3 sz_23 rfl rfl rfl rfl rfl rfl ?_
    refine SXL.assign rfl ?_
    refine SXL.nil ?_
    refine thenQ.normal ?_
    refine ⟨(_), MeetsW.mkS [0, 3] ⟨rfl, rfl, trivial⟩ ⟨rfl, rfl, rfl, trivial⟩ rfl, trivial⟩
  rintro b3 _
  refine SX.cutW (α := Nat) [0, 1, 2, 3, 4] rfl (fun b5 => [(5, .pointer (some ⟨b5, 0, none⟩)), (6, .int .i64 0)]) (fun b5 => [(b1, .cells ⟨[.int .i64 26, .int .i64 33]⟩ 23 (0, 0)), (b3, .cells ⟨[.int .i64 10, .int .i64 25]⟩ 23 (0, 0)), (b5, .cells ⟨[.int .i64 2, .int .i64 25]⟩ 23 (0, 0))]) (fun b5 => []) (fun b5 => True) ?_ ?_
  · refine SX.region ?_
    refine SXL.callF (SpR fnt) fn_67 rfl (fun w hI => fountain_any [] none 0 (by simp) w (.nil _ _ _)) ?_; rintro _ _ ⟨ra62, rb62, oa62, ob62, rfl, rfl⟩
    refine SXL.call1 (.tuple ⟨[.agg ⟨[.int .i64 2, .int .i64 25]⟩, .int .i64 0]⟩) fn_22 rfl (fun w hI => (sgives_any fnt ra62.addr rb62.addr ra62.cap rb62.cap 3 (by decide) (by decide) _ (hg.inv hI) (spAtOwn hI oa62 ob62 (i := 2) (j := 3) rfl rfl)).eqv (by rw [ey_g3.1, ey_g3.2.1, ey_g3.2.2])) ?_
    refine SXL.move rfl ?_
    refine SXL.extract rfl rfl ?_
    refine SXL.extract rfl rfl ?_
    refine SXL.alloc zp_23 ?_; intro b4
    refine SXL.store 4 sz_23 rfl rfl rfl rfl rfl rfl ?_
    refine SXL.assign rfl ?_
    refine SXL.nil ?_
    refine thenQ.normal ?_
    refine ⟨(_), MeetsW.mkS [0, 1, 4] ⟨rfl, rfl, trivial⟩ ⟨rfl, rfl, rfl, rfl, rfl, trivial⟩ rfl, trivial⟩
  rintro b5 _
  refine SX.cutW (α := Unit) [0, 1, 2, 3, 4, 5, 6] rfl (fun _ => [(7, .int .u8 0), (8, .int .i64 0)]) (fun _ => [(b1, .cells ⟨[.int .i64 26, .int .i64 33]⟩ 23 (0, 0)), (b3, .cells ⟨[.int .i64 10, .int .i64 25]⟩ 23 (0, 0)), (b5, .cells ⟨[.int .i64 2, .int .i64 25]⟩ 23 (0, 0))]) (fun _ => []) (fun _ => True) ?_ ?_
  · refine SX.region ?_
    refine SXL.callF (SpR fnt) fn_67 rfl (fun w hI => fountain_any [] none 0 (by simp) w (.nil _ _ _)) ?_; rintro _ _ ⟨ra67, rb67, oa67, ob67, rfl, rfl⟩
    refine SXL.call1 (.tuple ⟨[.int .u8 0, .int .i64 0]⟩) fn_24 rfl (fun w hI => (sknown_any fnt ra67.addr rb67.addr ra67.cap rb67.cap 2 26 (by decide) (by decide) _ (hg.inv hI) (spAtOwn hI oa67 ob67 (i := 3) (j := 4) rfl rfl)).eqv (by rw [ey_k2, ey_g2.2.2])) ?_
    refine SXL.move rfl ?_
    refine SXL.extract rfl rfl ?_
    refine SXL.extract rfl rfl ?_
    refine SXL.assign rfl ?_
    refine SXL.assign rfl ?_
    refine SXL.nil ?_
    refine thenQ.normal ?_
    refine ⟨(), MeetsW.mkS [0, 1, 2] ⟨rfl, rfl, trivial⟩ ⟨rfl, rfl, rfl, rfl, rfl, rfl, rfl, trivial⟩ rfl, trivial⟩
  rintro _ _
  refine SX.cutW (α := Unit) [0, 1, 2, 3, 4, 5, 6, 7, 8] rfl (fun _ => [(9, .int .u8 1), (10, .int .i64 0)]) (fun _ => [(b1, .cells ⟨[.int .i64 26, .int .i64 33]⟩ 23 (0, 0)), (b3, .cells ⟨[.int .i64 10, .int .i64 25]⟩ 23 (0, 0)), (b5, .cells ⟨[.int .i64 2, .int .i64 25]⟩ 23 (0, 0))]) (fun _ => []) (fun _ => True) ?_ ?_
  · refine SX.region ?_
    refine SXL.callF (SpR fnt) fn_67 rfl (fun w hI => fountain_any [] none 0 (by simp) w (.nil _ _ _)) ?_; rintro _ _ ⟨ra72, rb72, oa72, ob72, rfl, rfl⟩
    refine SXL.call1 (.tuple ⟨[.int .u8 1, .int .i64 0]⟩) fn_24 rfl (fun w hI => (sknown_any fnt ra72.addr rb72.addr ra72.cap rb72.cap 1 20 (by decide) (by decide) _ (hg.inv hI) (spAtOwn hI oa72 ob72 (i := 3) (j := 4) rfl rfl)).eqv (by rw [ey_k1.1, ey_k1.2])) ?_
    refine SXL.move rfl ?_
    refine SXL.extract rfl rfl ?_
    refine SXL.extract rfl rfl ?_
    refine SXL.assign rfl ?_
    refine SXL.assign rfl ?_
    refine SXL.nil ?_
    refine thenQ.normal ?_
    refine ⟨(), MeetsW.mkS [0, 1, 2] ⟨rfl, rfl, trivial⟩ ⟨rfl, rfl, rfl, rfl, rfl, rfl, rfl, rfl, rfl, trivial⟩ rfl, trivial⟩
  rintro _ _
  refine SX.cutW (α := Unit) [0, 1, 2, 3, 4, 5, 6, 7, 8, 9, 10] rfl (fun _ => [(11, .int .i64 1), (12, .int .i64 0)]) (fun _ => [(b1, .cells ⟨[.int .i64 26, .int .i64 33]⟩ 23 (0, 0)), (b3, .cells ⟨[.int .i64 10, .int .i64 25]⟩ 23 (0, 0)), (b5, .cells ⟨[.int .i64 2, .int .i64 25]⟩ 23 (0, 0))]) (fun _ => []) (fun _ => True) ?_ ?_
  · refine SX.region ?_
    refine SXL.callF (SpR fnt) fn_67 rfl (fun w hI => fountain_any [] none 0 (by simp) w (.nil _ _ _)) ?_; rintro _ _ ⟨ra77, rb77, oa77, ob77, rfl, rfl⟩
    refine SXL.call1 (.tuple ⟨[.int .i64 1, .int .i64 0]⟩) fn_42 rfl (fun w hI => (sfails_any fnt ra77.addr rb77.addr ra77.cap rb77.cap 26 (by decide) (by decide) _ (hg.inv hI) (spAtOwn hI oa77 ob77 (i := 3) (j := 4) rfl rfl)).eqv (by rw [ey_f26.1, ey_f26.2])) ?_
    refine SXL.move rfl ?_
    refine SXL.extract rfl rfl ?_
    refine SXL.extract rfl rfl ?_
    refine SXL.assign rfl ?_
    refine SXL.assign rfl ?_
    refine SXL.nil ?_
    refine thenQ.normal ?_
    refine ⟨(), MeetsW.mkS [0, 1, 2] ⟨rfl, rfl, trivial⟩ ⟨rfl, rfl, rfl, rfl, rfl, rfl, rfl, rfl, rfl, rfl, rfl, trivial⟩ rfl, trivial⟩
  rintro _ _
  refine SX.cutW (α := Unit) [0, 1, 2, 3, 4, 5, 6, 7, 8, 9, 10, 11, 12] rfl (fun _ => [(13, .bool false), (14, .int .i64 0)]) (fun _ => [(b1, .cells ⟨[.int .i64 26, .int .i64 33]⟩ 23 (0, 0)), (b3, .cells ⟨[.int .i64 10, .int .i64 25]⟩ 23 (0, 0)), (b5, .cells ⟨[.int .i64 2, .int .i64 25]⟩ 23 (0, 0))]) (fun _ => []) (fun _ => True) ?_ ?_
  · refine SX.region ?_
    refine SXL.callF (SpR oddS) fn_68 rfl (fun w hI => odd_any w) ?_; rintro _ _ ⟨ra82, rb82, oa82, ob82, rfl, rfl⟩
    refine SXL.call1 (.tuple ⟨[.bool false, .int .i64 0]⟩) fn_18 rfl (fun w hI => (scan_any oddS ra82.addr rb82.addr ra82.cap rb82.cap (by decide) (by decide) _ (hg.inv hI) (spAtOwn hI oa82 ob82 (i := 3) (j := 4) rfl rfl)).eqv (by rw [decide_eq_false (fun h => ey_can.2 h.2), if_pos ey_can.1])) ?_
    refine SXL.move rfl ?_
    refine SXL.extract rfl rfl ?_
    refine SXL.extract rfl rfl ?_
    refine SXL.assign rfl ?_
    refine SXL.assign rfl ?_
    refine SXL.nil ?_
    refine thenQ.normal ?_
    refine ⟨(), MeetsW.mkS [0, 1, 2] ⟨rfl, rfl, trivial⟩ ⟨rfl, rfl, rfl, rfl, rfl, rfl, rfl, rfl, rfl, rfl, rfl, rfl, rfl, trivial⟩ rfl, trivial⟩
  rintro _ _
  refine SX.cutW (α := Sl × Sl × Nat) [0, 1, 2, 3, 4, 5, 6, 7, 8, 9, 10, 11, 12, 13, 14] rfl (fun ⟨ra89, rb89, b15⟩ => [(15, .pointer (some ⟨b15, 0, none⟩)), (16, .int .i64 0)]) (fun ⟨ra89, rb89, b15⟩ => [(b1, .cells ⟨[.int .i64 26, .int .i64 33]⟩ 23 (0, 0)), (b3, .cells ⟨[.int .i64 10, .int .i64 25]⟩ 23 (0, 0)), (b5, .cells ⟨[.int .i64 2, .int .i64 25]⟩ 23 (0, 0)), ra89.ent 61 (bookC oddS), rb89.ent 54 (readsC oddS), (b15, .cells ⟨[.int .i64 oddS.weeks, .int .i64 oddS.most, .int .i64 oddS.fall, .int .i64 oddS.a0, .int .i64 oddS.a1, .int .i64 oddS.w0, .int .i64 oddS.w1, ra89.val oddS.book.length, rb89.val oddS.reads.length]⟩ 27 (0, 0))]) (fun ⟨ra89, rb89, b15⟩ => []) (fun ⟨ra89, rb89, b15⟩ => ra89.Ok oddS.book.length 5 (bookC oddS) ∧ rb89.Ok oddS.reads.length 5 (readsC oddS)) ?_ ?_
  · refine SX.region ?_
    refine SXL.callF (SpR fnt) fn_67 rfl (fun w hI => fountain_any [] none 0 (by simp) w (.nil _ _ _)) ?_; rintro _ _ ⟨ra87, rb87, oa87, ob87, rfl, rfl⟩
    refine SXL.call1 (.agg ⟨oddR.cells⟩) fn_69 rfl (fun w hI => mkRd_any oddR _) ?_
    refine SXL.callF (SpE oddS 0) fn_36 rfl (fun w hI => (sadd_any fnt ra87.addr rb87.addr ra87.cap rb87.cap oddR (by decide) (by decide) w (hg.inv hI) (spAtOwn hI oa87 ob87 (i := 3) (j := 4) rfl rfl)).mono (fun v own h => by rw [ey_add.1, ey_add.2] at h; exact h)) ?_; rintro _ _ ⟨ra89, rb89, oa89, ob89, rfl, rfl⟩
    refine SXL.move rfl ?_
    refine SXL.extract rfl rfl ?_
    refine SXL.extract rfl rfl ?_
    refine SXL.alloc zp_27 ?_; intro b7
    refine SXL.store 7 sz_27 rfl rfl rfl rfl rfl rfl ?_
    refine SXL.assign rfl ?_
    refine SXL.nil ?_
    refine thenQ.normal ?_
    refine ⟨(_, _, _), MeetsW.mkS [0, 1, 2, 5, 6, 7] ⟨rfl, rfl, trivial⟩ ⟨rfl, rfl, rfl, rfl, rfl, rfl, rfl, rfl, rfl, rfl, rfl, rfl, rfl, rfl, rfl, trivial⟩ rfl, ⟨oa89, ob89⟩⟩
  rintro ⟨ra89, rb89, b15⟩ ⟨oa89, ob89⟩
  refine SX.cutW (α := Nat × Sl × Sl) [0, 1, 2, 3, 4, 5, 6, 7, 8, 9, 10, 11, 12, 13, 14, 15, 16] rfl (fun ⟨b17, ra97, rb97⟩ => [(17, .pointer (some ⟨b17, 0, none⟩)), (18, .int .i64 0)]) (fun ⟨b17, ra97, rb97⟩ => [(b1, .cells ⟨[.int .i64 26, .int .i64 33]⟩ 23 (0, 0)), (b3, .cells ⟨[.int .i64 10, .int .i64 25]⟩ 23 (0, 0)), (b5, .cells ⟨[.int .i64 2, .int .i64 25]⟩ 23 (0, 0)), ra89.ent 61 (bookC oddS), rb89.ent 54 (readsC oddS), (b15, .cells ⟨[.int .i64 oddS.weeks, .int .i64 oddS.most, .int .i64 oddS.fall, .int .i64 oddS.a0, .int .i64 oddS.a1, .int .i64 oddS.w0, .int .i64 oddS.w1, ra89.val oddS.book.length, rb89.val oddS.reads.length]⟩ 27 (0, 0)), (b17, .cells ⟨[.int .i64 (withLine fnt ex1).weeks, .int .i64 (withLine fnt ex1).most, .int .i64 (withLine fnt ex1).fall, .int .i64 (withLine fnt ex1).a0, .int .i64 (withLine fnt ex1).a1, .int .i64 (withLine fnt ex1).w0, .int .i64 (withLine fnt ex1).w1, ra97.val (withLine fnt ex1).book.length, rb97.val (withLine fnt ex1).reads.length]⟩ 27 (0, 0))]) (fun ⟨b17, ra97, rb97⟩ => []) (fun ⟨b17, ra97, rb97⟩ => True) ?_ ?_
  · refine SX.region ?_
    refine SXL.callF (SpR fnt) fn_67 rfl (fun w hI => fountain_any [] none 0 (by simp) w (.nil _ _ _)) ?_; rintro _ _ ⟨ra93, rb93, oa93, ob93, rfl, rfl⟩
    refine SXL.call1 (.agg ⟨[.int .i64 1, .int .i64 2]⟩) fn_63 rfl (fun w hI => mkSpan_any _ _ _) ?_
    refine SXL.call1 (.agg ⟨[.int .i64 0, .int .i64 100]⟩) fn_63 rfl (fun w hI => mkSpan_any _ _ _) ?_
    refine SXL.buildS pl_61 zp_61 rfl (show _ = some ex1.cells from rfl) ?_
    refine SXL.callF (SpE (withLine fnt ex1) 0) fn_38 rfl (fun w hI => (swrite_any fnt ra93.addr rb93.addr ra93.cap rb93.cap ex1 (by decide) (by decide) w (hg.inv hI) (spAtOwn hI oa93 ob93 (i := 6) (j := 7) rfl rfl)).mono (fun v own h => by rw [ey_write.1, ey_write.2] at h; exact h)) ?_; rintro _ _ ⟨ra97, rb97, oa97, ob97, rfl, rfl⟩
    refine SXL.move rfl ?_
    refine SXL.extract rfl rfl ?_
    refine SXL.extract rfl rfl ?_
    refine SXL.alloc zp_27 ?_; intro b10
    refine SXL.store 10 sz_27 rfl rfl rfl rfl rfl rfl ?_
    refine SXL.assign rfl ?_
    refine SXL.nil ?_
    refine thenQ.normal ?_
    refine ⟨(_, _, _), MeetsW.mkS [0, 1, 2, 3, 4, 5, 10] ⟨rfl, rfl, trivial⟩ ⟨rfl, rfl, rfl, rfl, rfl, rfl, rfl, rfl, rfl, rfl, rfl, rfl, rfl, rfl, rfl, rfl, rfl, trivial⟩ rfl, trivial⟩
  rintro ⟨b17, ra97, rb97⟩ _
  refine SX.cutW (α := Unit) [0, 2, 4, 6, 8, 10, 12, 14, 16, 18] rfl (fun _ => []) (fun _ => []) (fun _ => []) (fun _ => True) ?_ ?_
  · refine SX.seq ?_
    refine SX.draw 76 (by kernel_rfl) (by kernel_rfl) {} ?_
    refine SXA.take 0 62 rfl (by kernel_rfl) rfl ?_
    refine SXL.move rfl ?_
    refine SXL.neqF rfl rfl ?_
    refine SXL.move rfl ?_
    refine SXL.loadNo 0 sh_23 rfl rfl rfl ?_
    refine SXL.call1 (.agg ⟨[.int .i64 26, .int .i64 33]⟩) fn_63 rfl (fun w hI => mkSpan_any _ _ _) ?_
    refine SXL.neqVF (xs := [26, 33]) eq_23 eg_23 sh_23 rfl rfl rfl ?_
    refine SXL.pickAt (EnvSub.refl _) rfl rfl ?_ rfl rfl
    refine SXL.move rfl ?_
    refine SXL.move rfl ?_
    refine SXL.neqF rfl rfl ?_
    refine SXL.pickAt (EnvSub.refl _) rfl rfl ?_ rfl rfl
    refine SXL.move rfl ?_
    refine SXL.loadNo 1 sh_23 rfl rfl rfl ?_
    refine SXL.call1 (.agg ⟨[.int .i64 10, .int .i64 25]⟩) fn_63 rfl (fun w hI => mkSpan_any _ _ _) ?_
    refine SXL.neqVF (xs := [10, 25]) eq_23 eg_23 sh_23 rfl rfl rfl ?_
    refine SXL.pickAt (EnvSub.refl _) rfl rfl ?_ rfl rfl
    refine SXL.move rfl ?_
    refine SXL.move rfl ?_
    refine SXL.neqF rfl rfl ?_
    refine SXL.pickAt (EnvSub.refl _) rfl rfl ?_ rfl rfl
    refine SXL.move rfl ?_
    refine SXL.loadNo 2 sh_23 rfl rfl rfl ?_
    refine SXL.call1 (.agg ⟨[.int .i64 2, .int .i64 25]⟩) fn_63 rfl (fun w hI => mkSpan_any _ _ _) ?_
    refine SXL.neqVF (xs := [2, 25]) eq_23 eg_23 sh_23 rfl rfl rfl ?_
    refine SXL.pickAt (EnvSub.refl _) rfl rfl ?_ rfl rfl
    refine SXL.move rfl ?_
    refine SXL.move rfl ?_
    refine SXL.neqF rfl rfl ?_
    refine SXL.pickAt (EnvSub.refl _) rfl rfl ?_ rfl rfl
    refine SXL.move rfl ?_
    refine SXL.move rfl ?_
    refine SXL.neqF rfl rfl ?_
    refine SXL.pickAt (EnvSub.refl _) rfl rfl ?_ rfl rfl
    refine SXL.move rfl ?_
    refine SXL.move rfl ?_
    refine SXL.neqF rfl rfl ?_
    refine SXL.pickAt (EnvSub.refl _) rfl rfl ?_ rfl rfl
    refine SXL.move rfl ?_
    refine SXL.move rfl ?_
    refine SXL.neqF rfl rfl ?_
    refine SXL.pickAt (EnvSub.refl _) rfl rfl ?_ rfl rfl
    refine SXL.move rfl ?_
    refine SXL.move rfl ?_
    refine SXL.neqF rfl rfl ?_
    refine SXL.pickAt (EnvSub.refl _) rfl rfl ?_ rfl rfl
    refine SXL.move rfl ?_
    refine SXL.move rfl ?_
    refine SXL.neqF rfl rfl ?_
    refine SXL.pickAt (EnvSub.refl _) rfl rfl ?_ rfl rfl
    refine SXL.move rfl ?_
    refine SXL.move rfl ?_
    refine SXL.neqF rfl rfl ?_
    refine SXL.pickAt (EnvSub.refl _) rfl rfl ?_ rfl rfl
    refine SXL.move rfl ?_
    refine SXL.move rfl ?_
    refine SXL.pickAt (EnvSub.refl _) rfl rfl ?_ rfl rfl
    refine SXL.move rfl ?_
    refine SXL.move rfl ?_
    refine SXL.neqF rfl rfl ?_
    refine SXL.pickAt (EnvSub.refl _) rfl rfl ?_ rfl rfl
    refine SXL.move rfl ?_
    refine SXL.loadNo 5 sh_27 rfl rfl rfl ?_
    refine SXL.nil ⟨rfl, rfl, rfl, ?_⟩
    refine SXA.all [62] (by kernel_rfl) rfl ⟨⟨?_, rfl⟩, trivial⟩
    refine (show SXL _ _ [_] _ _ from ?_)
    refine SXL.callF (SpR oddS) fn_68 rfl (fun w hI => odd_any w) ?_; rintro _ _ ⟨ra162, rb162, oa162, ob162, rfl, rfl⟩
    refine SXL.nil (stepQ.mk _ rfl rfl ?_)
    refine SXA.take 63 13 rfl (by kernel_rfl) rfl ?_
    refine SXL.call1 (.bool true) fn_29 rfl (fun w hI => (same_any oddS oddS ra89.addr rb89.addr ra162.addr rb162.addr ra89.cap rb89.cap ra162.cap rb162.cap (by decide) (by decide) _ (spAtOwn hI oa89 ob89 (i := 3) (j := 4) rfl rfl) (spAtOwn hI oa162 ob162 (i := 7) (j := 8) rfl rfl)).eqv (congrArg Value.bool (decide_eq_true rfl))) ?_
    refine SXL.notF rfl ?_
    refine SXL.pickAt (EnvSub.refl _) rfl rfl ?_ rfl rfl
    refine SXL.move rfl ?_
    refine SXL.move rfl ?_
    refine SXL.neqF rfl rfl ?_
    refine SXL.pickAt (EnvSub.refl _) rfl rfl ?_ rfl rfl
    refine SXL.move rfl ?_
    refine SXL.fieldAddr fp_27_5 rfl ?_
    refine SXL.load1o 6 sh_24 rfl rfl rfl ?_
    refine SXL.len is_24 rfl ?_
    refine SXL.neqF rfl rfl ?_
    refine SXL.pickAt (EnvSub.refl _) rfl rfl ?_ rfl rfl
    refine SXL.nil ⟨rfl, rfl, rfl, ?_⟩
    refine SXA.done (by kernel_rfl) ?_
    refine SXL.nil ?_
    refine thenQ.normal ?_
    refine SX.condP (p := False) rfl (fun c175 => ?_) (fun c175 => ?_)
    · exfalso; exact c175
    refine SX.skip ?_
    refine thenQ.normal ?_
    refine ⟨(), MeetsW.mkS [] trivial ⟨rfl, rfl, rfl, rfl, rfl, rfl, rfl, rfl, rfl, rfl, trivial⟩ rfl, trivial⟩
  rintro _ _
  refine SX.seq ?_
  refine SX.region ?_
  refine SXL.callF (SpR fnt) fn_67 rfl (fun w hI => fountain_any [] none 0 (by simp) w (.nil _ _ _)) ?_; rintro _ _ ⟨ra176, rb176, oa176, ob176, rfl, rfl⟩
  refine SXL.callF (SpR fnt) fn_67 rfl (fun w hI => fountain_any [] none 0 (by simp) w (.nil _ _ _)) ?_; rintro _ _ ⟨ra177, rb177, oa177, ob177, rfl, rfl⟩
  refine SXL.callF (SpR fnt) fn_67 rfl (fun w hI => fountain_any [] none 0 (by simp) w (.nil _ _ _)) ?_; rintro _ _ ⟨ra178, rb178, oa178, ob178, rfl, rfl⟩
  refine SXL.callF (SpR fnt) fn_67 rfl (fun w hI => fountain_any [] none 0 (by simp) w (.nil _ _ _)) ?_; rintro _ _ ⟨ra179, rb179, oa179, ob179, rfl, rfl⟩
  refine SXL.alloc zp_27 ?_; intro b8
  refine SXL.alloc zp_27 ?_; intro b9
  refine SXL.alloc zp_27 ?_; intro b10
  refine SXL.alloc zp_27 ?_; intro b11
  refine SXL.store 8 sz_27 rfl rfl rfl rfl rfl rfl ?_
  refine SXL.store 9 sz_27 rfl rfl rfl rfl rfl rfl ?_
  refine SXL.store 10 sz_27 rfl rfl rfl rfl rfl rfl ?_
  refine SXL.store 11 sz_27 rfl rfl rfl rfl rfl rfl ?_
  refine SXL.nil ?_
  refine thenQ.normal ?_
  refine SX.seq ?_
  refine SX.region ?_
  refine SXL.fieldAddr fp_27_3 rfl ?_
  refine SXL.fieldAddr fp_23_0 rfl ?_
  refine SXL.store 8 sz_3 rfl rfl rfl rfl rfl rfl ?_
  refine SXL.nil ?_
  refine thenQ.normal ?_
  refine SX.cutW (α := Sl × Sl × Nat × Sl × Sl × Nat × Sl × Sl × Nat × Sl × Sl × Nat) [0, 2, 4, 6, 8, 10, 12, 14, 16, 18] rfl (fun ⟨q1, q2, b19, q3, q4, b20, q5, q6, b21, q7, q8, b22⟩ => [(19, .pointer (some ⟨b19, 0, none⟩)), (20, .pointer (some ⟨b20, 0, none⟩)), (21, .pointer (some ⟨b21, 0, none⟩)), (22, .pointer (some ⟨b22, 0, none⟩))]) (fun ⟨q1, q2, b19, q3, q4, b20, q5, q6, b21, q7, q8, b22⟩ => [q1.ent 61 (bookC tornS), q2.ent 54 (readsC tornS), (b19, .cells ⟨[.int .i64 tornS.weeks, .int .i64 tornS.most, .int .i64 tornS.fall, .int .i64 tornS.a0, .int .i64 tornS.a1, .int .i64 tornS.w0, .int .i64 tornS.w1, q1.val tornS.book.length, q2.val tornS.reads.length]⟩ 27 (0, 0)), q3.ent 61 (bookC dryS), q4.ent 54 (readsC dryS), (b20, .cells ⟨[.int .i64 dryS.weeks, .int .i64 dryS.most, .int .i64 dryS.fall, .int .i64 dryS.a0, .int .i64 dryS.a1, .int .i64 dryS.w0, .int .i64 dryS.w1, q3.val dryS.book.length, q4.val dryS.reads.length]⟩ 27 (0, 0)), q5.ent 61 (bookC (fullS 0)), q6.ent 54 (readsC (fullS 0)), (b21, .cells ⟨[.int .i64 (fullS 0).weeks, .int .i64 (fullS 0).most, .int .i64 (fullS 0).fall, .int .i64 (fullS 0).a0, .int .i64 (fullS 0).a1, .int .i64 (fullS 0).w0, .int .i64 (fullS 0).w1, q5.val (fullS 0).book.length, q6.val (fullS 0).reads.length]⟩ 27 (0, 0)), q7.ent 61 (bookC (longS 0)), q8.ent 54 (readsC (longS 0)), (b22, .cells ⟨[.int .i64 (longS 0).weeks, .int .i64 (longS 0).most, .int .i64 (longS 0).fall, .int .i64 (longS 0).a0, .int .i64 (longS 0).a1, .int .i64 (longS 0).w0, .int .i64 (longS 0).w1, q7.val (longS 0).book.length, q8.val (longS 0).reads.length]⟩ 27 (0, 0))]) (fun ⟨q1, q2, b19, q3, q4, b20, q5, q6, b21, q7, q8, b22⟩ => []) (fun ⟨q1, q2, b19, q3, q4, b20, q5, q6, b21, q7, q8, b22⟩ => q1.Ok tornS.book.length 5 (bookC tornS) ∧ q2.Ok tornS.reads.length 5 (readsC tornS) ∧ q3.Ok dryS.book.length 5 (bookC dryS) ∧ q4.Ok dryS.reads.length 5 (readsC dryS) ∧ q5.Ok (fullS 0).book.length 5 (bookC (fullS 0)) ∧ q6.Ok (fullS 0).reads.length 5 (readsC (fullS 0)) ∧ q7.Ok (longS 0).book.length 5 (bookC (longS 0)) ∧ q8.Ok (longS 0).reads.length 5 (readsC (longS 0))) ?_ ?_
  · refine SX.region ?_
    refine SXL.fieldAddr fp_27_2 rfl ?_
    refine SXL.store 9 sz_3 rfl rfl rfl rfl rfl rfl ?_
    refine SXL.nil ?_
    refine thenQ.normal ?_
    refine ⟨(_, _, _, _, _, _, _, _, _, _, _, _), MeetsW.mkS [0, 1, 8, 2, 3, 9, 4, 5, 10, 6, 7, 11] ⟨rfl, rfl, rfl, rfl, trivial⟩ ⟨rfl, rfl, rfl, rfl, rfl, rfl, rfl, rfl, rfl, rfl, trivial⟩ rfl, ⟨oa176, ob176, oa177, ob177, oa178, ob178, oa179, ob179⟩⟩
  rintro ⟨q1, q2, b19, q3, q4, b20, q5, q6, b21, q7, q8, b22⟩ ⟨k1, k2, k3, k4, k5, k6, k7, k8⟩
  refine SX.seq ?_
  refine SX.seq ?_
  refine SX.region ?_
  refine SXL.assign rfl ?_
  refine SXL.nil ?_
  refine thenQ.normal ?_
  refine SX.block ?_
  refine SX.loopW (α := Nat × Sl) [0, 2, 4, 6, 8, 10, 12, 14, 16, 18, 19, 20, 21, 22] rfl (fun ⟨k, qa⟩ => [(23, .int .i64 ((k : Int) + 2))]) (fun ⟨k, qa⟩ => [q1.ent 61 (bookC tornS), q2.ent 54 (readsC tornS), (b19, .cells ⟨[.int .i64 tornS.weeks, .int .i64 tornS.most, .int .i64 tornS.fall, .int .i64 tornS.a0, .int .i64 tornS.a1, .int .i64 tornS.w0, .int .i64 tornS.w1, q1.val tornS.book.length, q2.val tornS.reads.length]⟩ 27 (0, 0)), q3.ent 61 (bookC dryS), q4.ent 54 (readsC dryS), (b20, .cells ⟨[.int .i64 dryS.weeks, .int .i64 dryS.most, .int .i64 dryS.fall, .int .i64 dryS.a0, .int .i64 dryS.a1, .int .i64 dryS.w0, .int .i64 dryS.w1, q3.val dryS.book.length, q4.val dryS.reads.length]⟩ 27 (0, 0)), q5.ent 61 (bookC (fullS k)), qa.ent 54 (readsC (fullS k)), (b21, .cells ⟨[.int .i64 (fullS k).weeks, .int .i64 (fullS k).most, .int .i64 (fullS k).fall, .int .i64 (fullS k).a0, .int .i64 (fullS k).a1, .int .i64 (fullS k).w0, .int .i64 (fullS k).w1, q5.val (fullS k).book.length, qa.val (fullS k).reads.length]⟩ 27 (0, 0)), q7.ent 61 (bookC (longS 0)), q8.ent 54 (readsC (longS 0)), (b22, .cells ⟨[.int .i64 (longS 0).weeks, .int .i64 (longS 0).most, .int .i64 (longS 0).fall, .int .i64 (longS 0).a0, .int .i64 (longS 0).a1, .int .i64 (longS 0).w0, .int .i64 (longS 0).w1, q7.val (longS 0).book.length, q8.val (longS 0).reads.length]⟩ 27 (0, 0))]) (fun ⟨k, qa⟩ => []) (fun ⟨k, qa⟩ => k ≤ 11 ∧ qa.Ok (fullS k).reads.length 5 (readsC (fullS k))) (fun ⟨k, qa⟩ => 11 - k) (0, q6) ⟨Nat.zero_le _, k6⟩ ⟨rfl, trivial⟩ rfl ?_
  rintro ⟨k, qa⟩ ⟨hk0, ka⟩
  refine SX.seq ?_
  refine SX.seq ?_
  refine SX.region ?_
  refine SXL.move rfl ?_
  refine SXL.leq rfl rfl ?_
  refine SXL.nil ?_
  refine thenQ.normal ?_
  refine SX.condP rfl (fun c184 => ?_) (fun c184 => ?_)
  · refine SX.skip ?_
    refine thenQ.normal ?_
    refine SX.seq ?_
    refine SX.block ?_
    refine SX.draw 7 (by kernel_rfl) (by kernel_rfl) ⟨[0, 2, 6, 7], [true, true, true, true, true, true, true, false]⟩ ?_
    refine SXA.takeM 0 1 rfl (by kernel_rfl) rfl ?_
    refine SXL.fieldAddr fp_27_6 rfl ?_
    refine SXL.nil ⟨rfl, rfl, rfl, ?_⟩
    refine SXA.take 1 1 rfl (by kernel_rfl) rfl ?_
    refine SXL.load1o 8 sh_25 rfl rfl rfl ?_
    refine SXL.nil ⟨rfl, rfl, rfl, ?_⟩
    refine SXA.takeM 2 1 rfl (by kernel_rfl) rfl ?_
    refine SXL.move rfl ?_
    refine SXL.nil ⟨rfl, rfl, rfl, ?_⟩
    refine SXA.take 3 1 rfl (by kernel_rfl) rfl ?_
    refine SXL.call1 (.agg ⟨(Rd.mk ((k : Int) + 2) 3 1 0 99).cells⟩) fn_69 rfl (fun w hI => mkRd_any ⟨(k : Int) + 2, 3, 1, 0, 99⟩ _) ?_
    refine SXL.nil ⟨rfl, rfl, rfl, ?_⟩
    refine SXA.all [4] (by kernel_rfl) rfl ⟨⟨?_, rfl⟩, trivial⟩
    refine (show SXL _ _ [_] _ _ from ?_)
    refine SXL.buildSlice et_25 zp_54 rfl rfl rfl rfl ?_; intro b12
    refine SXL.nil (stepQ.mk _ rfl rfl ?_)
    refine SXA.all [5] (by kernel_rfl) rfl ⟨⟨?_, rfl⟩, trivial⟩
    refine (show SXL _ _ [_] _ _ from ?_)
    refine SXL.append 7 ap_25 rfl rfl ka rfl (.inr ⟨_, _, rfl, Mem.own (i := 12) (l := (Rd.mk ((k : Int) + 2) 3 1 0 99).cells) rfl (takeAt_all _)⟩) rfl rfl ⟨by rw [full_len]; simp only [maxLen]; omega, by rw [full_len]; omega⟩ ?_; intro r_192 o_192
    rw [← full_reads k, show (fullS k).reads.length + 1 = (fullS (k + 1)).reads.length from by rw [full_len, full_len]] at o_192 ⊢
    refine SXL.nil (stepQ.mkL _ (by kernel_rfl) rfl rfl ?_)
    refine SXA.takeM 6 1 rfl (by kernel_rfl) rfl ?_
    refine SXL.fieldAddr fp_27_6 rfl ?_
    refine SXL.nil ⟨rfl, rfl, rfl, ?_⟩
    refine SXA.done (by kernel_rfl) ?_
    refine SXL.store 8 sz_25 rfl rfl rfl rfl rfl rfl ?_
    refine SXL.nil ?_
    refine blockQ.normal ?_
    refine thenQ.normal ?_
    refine SX.region ?_
    refine SXL.move rfl ?_
    refine SXL.add rfl rfl (by omega) ?_
    refine SXL.assign rfl ?_
    refine SXL.nil ?_
    refine thenQ.normal ?_
    refine ⟨(k + 1, r_192), MeetsW.mkS [0, 1, 2, 3, 4, 5, 6, 7, 8, 9, 10, 11] ⟨congrArg (fun z => some (Value.int .i64 z)) (show (k : Int) + 2 + 1 = ((k + 1 : Nat) : Int) + 2 from by omega), trivial⟩ ⟨rfl, rfl, rfl, rfl, rfl, rfl, rfl, rfl, rfl, rfl, rfl, rfl, rfl, rfl, trivial⟩ rfl, ⟨by omega, o_192⟩, (by show 11 - (k + 1) < 11 - k; omega)⟩
  · refine SX.exit ?_
    refine thenQ.exit ?_
    refine thenQ.exit ?_
    refine blockQ.exit ?_
    refine thenQ.normal ?_
    refine SX.seq ?_
    refine SX.block ?_
    obtain rfl : k = 11 := by omega
    refine SX.loopW (α := Nat × Sl) [0, 2, 4, 6, 8, 10, 12, 14, 16, 18, 19, 20, 21, 22] rfl (fun ⟨k, qb⟩ => []) (fun ⟨k, qb⟩ => [q1.ent 61 (bookC tornS), q2.ent 54 (readsC tornS), (b19, .cells ⟨[.int .i64 tornS.weeks, .int .i64 tornS.most, .int .i64 tornS.fall, .int .i64 tornS.a0, .int .i64 tornS.a1, .int .i64 tornS.w0, .int .i64 tornS.w1, q1.val tornS.book.length, q2.val tornS.reads.length]⟩ 27 (0, 0)), q3.ent 61 (bookC dryS), q4.ent 54 (readsC dryS), (b20, .cells ⟨[.int .i64 dryS.weeks, .int .i64 dryS.most, .int .i64 dryS.fall, .int .i64 dryS.a0, .int .i64 dryS.a1, .int .i64 dryS.w0, .int .i64 dryS.w1, q3.val dryS.book.length, q4.val dryS.reads.length]⟩ 27 (0, 0)), q5.ent 61 (bookC (fullS 11)), qa.ent 54 (readsC (fullS 11)), (b21, .cells ⟨[.int .i64 (fullS 11).weeks, .int .i64 (fullS 11).most, .int .i64 (fullS 11).fall, .int .i64 (fullS 11).a0, .int .i64 (fullS 11).a1, .int .i64 (fullS 11).w0, .int .i64 (fullS 11).w1, q5.val (fullS 11).book.length, qa.val (fullS 11).reads.length]⟩ 27 (0, 0)), qb.ent 61 (bookC (longS k)), q8.ent 54 (readsC (longS k)), (b22, .cells ⟨[.int .i64 (longS k).weeks, .int .i64 (longS k).most, .int .i64 (longS k).fall, .int .i64 (longS k).a0, .int .i64 (longS k).a1, .int .i64 (longS k).w0, .int .i64 (longS k).w1, qb.val (longS k).book.length, q8.val (longS k).reads.length]⟩ 27 (0, 0))]) (fun ⟨k, qb⟩ => []) (fun ⟨k, qb⟩ => k ≤ 6 ∧ qb.Ok (longS k).book.length 5 (bookC (longS k))) (fun ⟨k, qb⟩ => 6 - k) (0, q7) ⟨Nat.zero_le _, k7⟩ trivial rfl ?_
    rintro ⟨k, qb⟩ ⟨hk0, kb⟩
    refine SX.seq ?_
    refine SX.seq ?_
    have hlb := long_len k
    refine SX.region ?_
    refine SXL.fieldAddr fp_27_5 rfl ?_
    refine SXL.load1o 11 sh_24 rfl rfl rfl ?_
    refine SXL.len is_24 rfl ?_
    refine SXL.lss rfl rfl ?_
    refine SXL.nil ?_
    refine thenQ.normal ?_
    refine SX.condP rfl (fun c197 => ?_) (fun c197 => ?_)
    · refine SX.skip ?_
      refine thenQ.normal ?_
      refine SX.block ?_
      have hk6 : k < 6 := by omega
      refine SX.region ?_
      refine SXL.fieldAddr fp_27_5 rfl ?_
      refine SXL.load1o 11 sh_24 rfl rfl rfl ?_
      refine SXL.buildS pl_61 zp_61 rfl (show _ = some zLn.cells from rfl) ?_
      refine SXL.buildSlice et_24 zp_61 rfl rfl rfl (show _ = some zLn.cells from rfl) ?_; intro b12
      refine SXL.append 9 ap_24 rfl rfl kb rfl (.inr ⟨_, _, rfl, Mem.own (i := 12) (l := zLn.cells) rfl (takeAt_all _)⟩) rfl rfl ⟨by rw [long_len]; simp only [maxLen]; omega, by rw [long_len]; omega⟩ ?_; intro r_202 o_202
      rw [← long_book k, show (longS k).book.length + 1 = (longS (k + 1)).book.length from by rw [long_len, long_len]] at o_202 ⊢
      refine SXL.fieldAddr fp_27_5 rfl ?_
      refine SXL.store 11 sz_24 rfl rfl rfl rfl rfl rfl ?_
      refine SXL.nil ?_
      refine blockQ.normal ?_
      refine thenQ.normal ?_
      refine ⟨(k + 1, r_202), MeetsW.mkS [0, 1, 2, 3, 4, 5, 6, 7, 8, 9, 10, 11] trivial ⟨rfl, rfl, rfl, rfl, rfl, rfl, rfl, rfl, rfl, rfl, rfl, rfl, rfl, rfl, trivial⟩ rfl, ⟨by omega, o_202⟩, (by show 6 - (k + 1) < 6 - k; omega)⟩
    · refine SX.exit ?_
      refine thenQ.exit ?_
      refine thenQ.exit ?_
      refine blockQ.exit ?_
      refine thenQ.normal ?_
      have hlb2 := long_len k
      obtain rfl : k = 6 := by omega
      refine SX.cutW (α := Unit) [0, 4, 6, 8, 10, 12, 14, 16, 18, 19, 20, 21, 22] rfl (fun _ => [(2, .int .i64 10)]) (fun _ => [q1.ent 61 (bookC tornS), q2.ent 54 (readsC tornS), (b19, .cells ⟨[.int .i64 tornS.weeks, .int .i64 tornS.most, .int .i64 tornS.fall, .int .i64 tornS.a0, .int .i64 tornS.a1, .int .i64 tornS.w0, .int .i64 tornS.w1, q1.val tornS.book.length, q2.val tornS.reads.length]⟩ 27 (0, 0)), q3.ent 61 (bookC dryS), q4.ent 54 (readsC dryS), (b20, .cells ⟨[.int .i64 dryS.weeks, .int .i64 dryS.most, .int .i64 dryS.fall, .int .i64 dryS.a0, .int .i64 dryS.a1, .int .i64 dryS.w0, .int .i64 dryS.w1, q3.val dryS.book.length, q4.val dryS.reads.length]⟩ 27 (0, 0)), q5.ent 61 (bookC (fullS 11)), qa.ent 54 (readsC (fullS 11)), (b21, .cells ⟨[.int .i64 (fullS 11).weeks, .int .i64 (fullS 11).most, .int .i64 (fullS 11).fall, .int .i64 (fullS 11).a0, .int .i64 (fullS 11).a1, .int .i64 (fullS 11).w0, .int .i64 (fullS 11).w1, q5.val (fullS 11).book.length, qa.val (fullS 11).reads.length]⟩ 27 (0, 0)), qb.ent 61 (bookC (longS 6)), q8.ent 54 (readsC (longS 6)), (b22, .cells ⟨[.int .i64 (longS 6).weeks, .int .i64 (longS 6).most, .int .i64 (longS 6).fall, .int .i64 (longS 6).a0, .int .i64 (longS 6).a1, .int .i64 (longS 6).w0, .int .i64 (longS 6).w1, qb.val (longS 6).book.length, q8.val (longS 6).reads.length]⟩ 27 (0, 0))]) (fun _ => []) (fun _ => True) ?_ ?_
      · refine SX.region ?_
        refine SXL.loadNo 2 sh_27 rfl rfl rfl ?_
        refine SXL.call1 (.tuple ⟨[.bool false, .int .i64 10]⟩) fn_18 rfl (fun w hI => (scan_any tornS q1.addr q2.addr q1.cap q2.cap (by decide) (by decide) _ (hg.inv hI) (spAtOwn (s := tornS) hI k1 k2 (i := 0) (j := 1) rfl rfl)).eqv (by rw [decide_eq_false (fun h => ey_torn h.1), if_neg ey_torn])) ?_
        refine SXL.move rfl ?_
        refine SXL.extract rfl rfl ?_
        refine SXL.extract rfl rfl ?_
        refine SXL.assign rfl ?_
        refine SXL.nil ?_
        refine thenQ.normal ?_
        refine ⟨(), MeetsW.mkS [0, 1, 2, 3, 4, 5, 6, 7, 8, 9, 10, 11] ⟨rfl, trivial⟩ ⟨rfl, rfl, rfl, rfl, rfl, rfl, rfl, rfl, rfl, rfl, rfl, rfl, rfl, trivial⟩ rfl, trivial⟩
      rintro _ _
      refine SX.cutW (α := Unit) [0, 2, 6, 8, 10, 12, 14, 16, 18, 19, 20, 21, 22] rfl (fun _ => [(4, .int .i64 11)]) (fun _ => [q1.ent 61 (bookC tornS), q2.ent 54 (readsC tornS), (b19, .cells ⟨[.int .i64 tornS.weeks, .int .i64 tornS.most, .int .i64 tornS.fall, .int .i64 tornS.a0, .int .i64 tornS.a1, .int .i64 tornS.w0, .int .i64 tornS.w1, q1.val tornS.book.length, q2.val tornS.reads.length]⟩ 27 (0, 0)), q3.ent 61 (bookC dryS), q4.ent 54 (readsC dryS), (b20, .cells ⟨[.int .i64 dryS.weeks, .int .i64 dryS.most, .int .i64 dryS.fall, .int .i64 dryS.a0, .int .i64 dryS.a1, .int .i64 dryS.w0, .int .i64 dryS.w1, q3.val dryS.book.length, q4.val dryS.reads.length]⟩ 27 (0, 0)), q5.ent 61 (bookC (fullS 11)), qa.ent 54 (readsC (fullS 11)), (b21, .cells ⟨[.int .i64 (fullS 11).weeks, .int .i64 (fullS 11).most, .int .i64 (fullS 11).fall, .int .i64 (fullS 11).a0, .int .i64 (fullS 11).a1, .int .i64 (fullS 11).w0, .int .i64 (fullS 11).w1, q5.val (fullS 11).book.length, qa.val (fullS 11).reads.length]⟩ 27 (0, 0)), qb.ent 61 (bookC (longS 6)), q8.ent 54 (readsC (longS 6)), (b22, .cells ⟨[.int .i64 (longS 6).weeks, .int .i64 (longS 6).most, .int .i64 (longS 6).fall, .int .i64 (longS 6).a0, .int .i64 (longS 6).a1, .int .i64 (longS 6).w0, .int .i64 (longS 6).w1, qb.val (longS 6).book.length, q8.val (longS 6).reads.length]⟩ 27 (0, 0))]) (fun _ => []) (fun _ => True) ?_ ?_
      · refine SX.region ?_
        refine SXL.callF (SpR oddS) fn_68 rfl (fun w hI => odd_any w) ?_; rintro _ _ ⟨ra210, rb210, oa210, ob210, rfl, rfl⟩
        refine SXL.call1 (.tuple ⟨[.agg ⟨[.int .i64 0, .int .i64 0]⟩, .int .i64 11]⟩) fn_22 rfl (fun w hI => (sgives_any oddS ra210.addr rb210.addr ra210.cap rb210.cap 4 (by decide) (by decide) _ (hg.inv hI) (spAtOwn hI oa210 ob210 (i := 12) (j := 13) rfl rfl)).eqv (by rw [ey_o4.1, ey_o4.2.1, ey_o4.2.2])) ?_
        refine SXL.move rfl ?_
        refine SXL.extract rfl rfl ?_
        refine SXL.extract rfl rfl ?_
        refine SXL.assign rfl ?_
        refine SXL.nil ?_
        refine thenQ.normal ?_
        refine ⟨(), MeetsW.mkS [0, 1, 2, 3, 4, 5, 6, 7, 8, 9, 10, 11] ⟨rfl, trivial⟩ ⟨rfl, rfl, rfl, rfl, rfl, rfl, rfl, rfl, rfl, rfl, rfl, rfl, rfl, trivial⟩ rfl, trivial⟩
      rintro _ _
      refine SX.cutW (α := Unit) [0, 2, 4, 8, 10, 12, 14, 16, 18, 19, 20, 21, 22] rfl (fun _ => [(6, .int .i64 8)]) (fun _ => [q1.ent 61 (bookC tornS), q2.ent 54 (readsC tornS), (b19, .cells ⟨[.int .i64 tornS.weeks, .int .i64 tornS.most, .int .i64 tornS.fall, .int .i64 tornS.a0, .int .i64 tornS.a1, .int .i64 tornS.w0, .int .i64 tornS.w1, q1.val tornS.book.length, q2.val tornS.reads.length]⟩ 27 (0, 0)), q3.ent 61 (bookC dryS), q4.ent 54 (readsC dryS), (b20, .cells ⟨[.int .i64 dryS.weeks, .int .i64 dryS.most, .int .i64 dryS.fall, .int .i64 dryS.a0, .int .i64 dryS.a1, .int .i64 dryS.w0, .int .i64 dryS.w1, q3.val dryS.book.length, q4.val dryS.reads.length]⟩ 27 (0, 0)), q5.ent 61 (bookC (fullS 11)), qa.ent 54 (readsC (fullS 11)), (b21, .cells ⟨[.int .i64 (fullS 11).weeks, .int .i64 (fullS 11).most, .int .i64 (fullS 11).fall, .int .i64 (fullS 11).a0, .int .i64 (fullS 11).a1, .int .i64 (fullS 11).w0, .int .i64 (fullS 11).w1, q5.val (fullS 11).book.length, qa.val (fullS 11).reads.length]⟩ 27 (0, 0)), qb.ent 61 (bookC (longS 6)), q8.ent 54 (readsC (longS 6)), (b22, .cells ⟨[.int .i64 (longS 6).weeks, .int .i64 (longS 6).most, .int .i64 (longS 6).fall, .int .i64 (longS 6).a0, .int .i64 (longS 6).a1, .int .i64 (longS 6).w0, .int .i64 (longS 6).w1, qb.val (longS 6).book.length, q8.val (longS 6).reads.length]⟩ 27 (0, 0))]) (fun _ => []) (fun _ => True) ?_ ?_
      · refine SX.region ?_
        refine SXL.callF (SpR oddS) fn_68 rfl (fun w hI => odd_any w) ?_; rintro _ _ ⟨ra215, rb215, oa215, ob215, rfl, rfl⟩
        refine SXL.callF (IsR2 [] 8) fn_20 rfl (fun w hI => (srains_any oddS ra215.addr rb215.addr ra215.cap rb215.cap (by decide) (by decide) w (hg.inv hI) (spAtOwn hI oa215 ob215 (i := 12) (j := 13) rfl rfl)).mono (fun v own h => by rw [ey_or.1, ey_or.2] at h; exact h)) ?_; rintro _ _ ⟨q216, u216, rfl, rfl⟩
        refine SXL.move rfl ?_
        refine SXL.extract rfl rfl ?_
        refine SXL.extract rfl rfl ?_
        refine SXL.assign rfl ?_
        refine SXL.nil ?_
        refine thenQ.normal ?_
        refine ⟨(), MeetsW.mkS [0, 1, 2, 3, 4, 5, 6, 7, 8, 9, 10, 11] ⟨rfl, trivial⟩ ⟨rfl, rfl, rfl, rfl, rfl, rfl, rfl, rfl, rfl, rfl, rfl, rfl, rfl, trivial⟩ rfl, trivial⟩
      rintro _ _
      refine SX.cutW (α := Unit) [0, 2, 4, 6, 10, 12, 14, 16, 18, 19, 20, 21, 22] rfl (fun _ => [(8, .int .i64 8)]) (fun _ => [q1.ent 61 (bookC tornS), q2.ent 54 (readsC tornS), (b19, .cells ⟨[.int .i64 tornS.weeks, .int .i64 tornS.most, .int .i64 tornS.fall, .int .i64 tornS.a0, .int .i64 tornS.a1, .int .i64 tornS.w0, .int .i64 tornS.w1, q1.val tornS.book.length, q2.val tornS.reads.length]⟩ 27 (0, 0)), q3.ent 61 (bookC dryS), q4.ent 54 (readsC dryS), (b20, .cells ⟨[.int .i64 dryS.weeks, .int .i64 dryS.most, .int .i64 dryS.fall, .int .i64 dryS.a0, .int .i64 dryS.a1, .int .i64 dryS.w0, .int .i64 dryS.w1, q3.val dryS.book.length, q4.val dryS.reads.length]⟩ 27 (0, 0)), q5.ent 61 (bookC (fullS 11)), qa.ent 54 (readsC (fullS 11)), (b21, .cells ⟨[.int .i64 (fullS 11).weeks, .int .i64 (fullS 11).most, .int .i64 (fullS 11).fall, .int .i64 (fullS 11).a0, .int .i64 (fullS 11).a1, .int .i64 (fullS 11).w0, .int .i64 (fullS 11).w1, q5.val (fullS 11).book.length, qa.val (fullS 11).reads.length]⟩ 27 (0, 0)), qb.ent 61 (bookC (longS 6)), q8.ent 54 (readsC (longS 6)), (b22, .cells ⟨[.int .i64 (longS 6).weeks, .int .i64 (longS 6).most, .int .i64 (longS 6).fall, .int .i64 (longS 6).a0, .int .i64 (longS 6).a1, .int .i64 (longS 6).w0, .int .i64 (longS 6).w1, qb.val (longS 6).book.length, q8.val (longS 6).reads.length]⟩ 27 (0, 0))]) (fun _ => []) (fun _ => True) ?_ ?_
      · refine SX.region ?_
        refine SXL.callF (SpR oddS) fn_68 rfl (fun w hI => odd_any w) ?_; rintro _ _ ⟨ra220, rb220, oa220, ob220, rfl, rfl⟩
        refine SXL.call1 (.tuple ⟨[.int .u8 0, .int .i64 8]⟩) fn_24 rfl (fun w hI => (sknown_any oddS ra220.addr rb220.addr ra220.cap rb220.cap 0 0 (by decide) (by decide) _ (hg.inv hI) (spAtOwn hI oa220 ob220 (i := 12) (j := 13) rfl rfl)).eqv (by rw [ey_ok, ey_or.2])) ?_
        refine SXL.move rfl ?_
        refine SXL.extract rfl rfl ?_
        refine SXL.extract rfl rfl ?_
        refine SXL.assign rfl ?_
        refine SXL.nil ?_
        refine thenQ.normal ?_
        refine ⟨(), MeetsW.mkS [0, 1, 2, 3, 4, 5, 6, 7, 8, 9, 10, 11] ⟨rfl, trivial⟩ ⟨rfl, rfl, rfl, rfl, rfl, rfl, rfl, rfl, rfl, rfl, rfl, rfl, rfl, trivial⟩ rfl, trivial⟩
      rintro _ _
      refine SX.cutW (α := Unit) [0, 2, 4, 6, 8, 12, 14, 16, 18, 19, 20, 21, 22] rfl (fun _ => [(10, .int .i64 6)]) (fun _ => [q1.ent 61 (bookC tornS), q2.ent 54 (readsC tornS), (b19, .cells ⟨[.int .i64 tornS.weeks, .int .i64 tornS.most, .int .i64 tornS.fall, .int .i64 tornS.a0, .int .i64 tornS.a1, .int .i64 tornS.w0, .int .i64 tornS.w1, q1.val tornS.book.length, q2.val tornS.reads.length]⟩ 27 (0, 0)), q3.ent 61 (bookC dryS), q4.ent 54 (readsC dryS), (b20, .cells ⟨[.int .i64 dryS.weeks, .int .i64 dryS.most, .int .i64 dryS.fall, .int .i64 dryS.a0, .int .i64 dryS.a1, .int .i64 dryS.w0, .int .i64 dryS.w1, q3.val dryS.book.length, q4.val dryS.reads.length]⟩ 27 (0, 0)), q5.ent 61 (bookC (fullS 11)), qa.ent 54 (readsC (fullS 11)), (b21, .cells ⟨[.int .i64 (fullS 11).weeks, .int .i64 (fullS 11).most, .int .i64 (fullS 11).fall, .int .i64 (fullS 11).a0, .int .i64 (fullS 11).a1, .int .i64 (fullS 11).w0, .int .i64 (fullS 11).w1, q5.val (fullS 11).book.length, qa.val (fullS 11).reads.length]⟩ 27 (0, 0)), qb.ent 61 (bookC (longS 6)), q8.ent 54 (readsC (longS 6)), (b22, .cells ⟨[.int .i64 (longS 6).weeks, .int .i64 (longS 6).most, .int .i64 (longS 6).fall, .int .i64 (longS 6).a0, .int .i64 (longS 6).a1, .int .i64 (longS 6).w0, .int .i64 (longS 6).w1, qb.val (longS 6).book.length, q8.val (longS 6).reads.length]⟩ 27 (0, 0))]) (fun _ => []) (fun _ => True) ?_ ?_
      · refine SX.region ?_
        refine SXL.callF (SpR fnt) fn_67 rfl (fun w hI => fountain_any [] none 0 (by simp) w (.nil _ _ _)) ?_; rintro _ _ ⟨ra225, rb225, oa225, ob225, rfl, rfl⟩
        refine SXL.call1 (.tuple ⟨[.int .i64 0, .int .i64 6]⟩) fn_42 rfl (fun w hI => (sfails_any fnt ra225.addr rb225.addr ra225.cap rb225.cap 2 (by decide) (by decide) _ (hg.inv hI) (spAtOwn hI oa225 ob225 (i := 12) (j := 13) rfl rfl)).eqv (by rw [ey_f2.1, ey_f2.2])) ?_
        refine SXL.move rfl ?_
        refine SXL.extract rfl rfl ?_
        refine SXL.extract rfl rfl ?_
        refine SXL.assign rfl ?_
        refine SXL.nil ?_
        refine thenQ.normal ?_
        refine ⟨(), MeetsW.mkS [0, 1, 2, 3, 4, 5, 6, 7, 8, 9, 10, 11] ⟨rfl, trivial⟩ ⟨rfl, rfl, rfl, rfl, rfl, rfl, rfl, rfl, rfl, rfl, rfl, rfl, rfl, trivial⟩ rfl, trivial⟩
      rintro _ _
      refine SX.cutW (α := Unit) [0, 2, 4, 6, 8, 10, 14, 16, 18, 19, 20, 21, 22] rfl (fun _ => [(12, .int .i64 6)]) (fun _ => [q1.ent 61 (bookC tornS), q2.ent 54 (readsC tornS), (b19, .cells ⟨[.int .i64 tornS.weeks, .int .i64 tornS.most, .int .i64 tornS.fall, .int .i64 tornS.a0, .int .i64 tornS.a1, .int .i64 tornS.w0, .int .i64 tornS.w1, q1.val tornS.book.length, q2.val tornS.reads.length]⟩ 27 (0, 0)), q3.ent 61 (bookC dryS), q4.ent 54 (readsC dryS), (b20, .cells ⟨[.int .i64 dryS.weeks, .int .i64 dryS.most, .int .i64 dryS.fall, .int .i64 dryS.a0, .int .i64 dryS.a1, .int .i64 dryS.w0, .int .i64 dryS.w1, q3.val dryS.book.length, q4.val dryS.reads.length]⟩ 27 (0, 0)), q5.ent 61 (bookC (fullS 11)), qa.ent 54 (readsC (fullS 11)), (b21, .cells ⟨[.int .i64 (fullS 11).weeks, .int .i64 (fullS 11).most, .int .i64 (fullS 11).fall, .int .i64 (fullS 11).a0, .int .i64 (fullS 11).a1, .int .i64 (fullS 11).w0, .int .i64 (fullS 11).w1, q5.val (fullS 11).book.length, qa.val (fullS 11).reads.length]⟩ 27 (0, 0)), qb.ent 61 (bookC (longS 6)), q8.ent 54 (readsC (longS 6)), (b22, .cells ⟨[.int .i64 (longS 6).weeks, .int .i64 (longS 6).most, .int .i64 (longS 6).fall, .int .i64 (longS 6).a0, .int .i64 (longS 6).a1, .int .i64 (longS 6).w0, .int .i64 (longS 6).w1, qb.val (longS 6).book.length, q8.val (longS 6).reads.length]⟩ 27 (0, 0))]) (fun _ => []) (fun _ => True) ?_ ?_
      · refine SX.region ?_
        refine SXL.callF (SpR fnt) fn_67 rfl (fun w hI => fountain_any [] none 0 (by simp) w (.nil _ _ _)) ?_; rintro _ _ ⟨ra230, rb230, oa230, ob230, rfl, rfl⟩
        refine SXL.call1 (.tuple ⟨[.int .i64 0, .int .i64 6]⟩) fn_44 rfl (fun w hI => (ssurely_any fnt ra230.addr rb230.addr ra230.cap rb230.cap 20 (by decide) (by decide) _ (hg.inv hI) (spAtOwn hI oa230 ob230 (i := 12) (j := 13) rfl rfl)).eqv (by rw [ey_s20.1, ey_s20.2])) ?_
        refine SXL.move rfl ?_
        refine SXL.extract rfl rfl ?_
        refine SXL.extract rfl rfl ?_
        refine SXL.assign rfl ?_
        refine SXL.nil ?_
        refine thenQ.normal ?_
        refine ⟨(), MeetsW.mkS [0, 1, 2, 3, 4, 5, 6, 7, 8, 9, 10, 11] ⟨rfl, trivial⟩ ⟨rfl, rfl, rfl, rfl, rfl, rfl, rfl, rfl, rfl, rfl, rfl, rfl, rfl, trivial⟩ rfl, trivial⟩
      rintro _ _
      refine SX.cutW (α := Unit) [0, 2, 4, 6, 8, 10, 12, 16, 18, 19, 20, 21, 22] rfl (fun _ => [(14, .int .i64 8)]) (fun _ => [q1.ent 61 (bookC tornS), q2.ent 54 (readsC tornS), (b19, .cells ⟨[.int .i64 tornS.weeks, .int .i64 tornS.most, .int .i64 tornS.fall, .int .i64 tornS.a0, .int .i64 tornS.a1, .int .i64 tornS.w0, .int .i64 tornS.w1, q1.val tornS.book.length, q2.val tornS.reads.length]⟩ 27 (0, 0)), q3.ent 61 (bookC dryS), q4.ent 54 (readsC dryS), (b20, .cells ⟨[.int .i64 dryS.weeks, .int .i64 dryS.most, .int .i64 dryS.fall, .int .i64 dryS.a0, .int .i64 dryS.a1, .int .i64 dryS.w0, .int .i64 dryS.w1, q3.val dryS.book.length, q4.val dryS.reads.length]⟩ 27 (0, 0)), q5.ent 61 (bookC (fullS 11)), qa.ent 54 (readsC (fullS 11)), (b21, .cells ⟨[.int .i64 (fullS 11).weeks, .int .i64 (fullS 11).most, .int .i64 (fullS 11).fall, .int .i64 (fullS 11).a0, .int .i64 (fullS 11).a1, .int .i64 (fullS 11).w0, .int .i64 (fullS 11).w1, q5.val (fullS 11).book.length, qa.val (fullS 11).reads.length]⟩ 27 (0, 0)), qb.ent 61 (bookC (longS 6)), q8.ent 54 (readsC (longS 6)), (b22, .cells ⟨[.int .i64 (longS 6).weeks, .int .i64 (longS 6).most, .int .i64 (longS 6).fall, .int .i64 (longS 6).a0, .int .i64 (longS 6).a1, .int .i64 (longS 6).w0, .int .i64 (longS 6).w1, qb.val (longS 6).book.length, q8.val (longS 6).reads.length]⟩ 27 (0, 0))]) (fun _ => []) (fun _ => True) ?_ ?_
      · refine SX.region ?_
        refine SXL.callF (SpR oddS) fn_68 rfl (fun w hI => odd_any w) ?_; rintro _ _ ⟨ra235, rb235, oa235, ob235, rfl, rfl⟩
        refine SXL.callF (IsR3 0 [] 8) fn_46 rfl (fun w hI => (spoor_any oddS ra235.addr rb235.addr ra235.cap rb235.cap (by decide) (by decide) w (hg.inv hI) (spAtOwn hI oa235 ob235 (i := 12) (j := 13) rfl rfl)).mono (fun v own h => by rw [ey_poor.1, ey_poor.2, ey_or.2] at h; exact h)) ?_; rintro _ _ ⟨q236, u236, rfl, rfl⟩
        refine SXL.move rfl ?_
        refine SXL.extract rfl rfl ?_
        refine SXL.extract rfl rfl ?_
        refine SXL.extract rfl rfl ?_
        refine SXL.assign rfl ?_
        refine SXL.nil ?_
        refine thenQ.normal ?_
        refine ⟨(), MeetsW.mkS [0, 1, 2, 3, 4, 5, 6, 7, 8, 9, 10, 11] ⟨rfl, trivial⟩ ⟨rfl, rfl, rfl, rfl, rfl, rfl, rfl, rfl, rfl, rfl, rfl, rfl, rfl, trivial⟩ rfl, trivial⟩
      rintro _ _
      refine SX.cutW (α := Unit) [0, 2, 4, 6, 8, 10, 12, 14, 18, 19, 20, 21, 22] rfl (fun _ => [(16, .int .i64 8)]) (fun _ => [q1.ent 61 (bookC tornS), q2.ent 54 (readsC tornS), (b19, .cells ⟨[.int .i64 tornS.weeks, .int .i64 tornS.most, .int .i64 tornS.fall, .int .i64 tornS.a0, .int .i64 tornS.a1, .int .i64 tornS.w0, .int .i64 tornS.w1, q1.val tornS.book.length, q2.val tornS.reads.length]⟩ 27 (0, 0)), q3.ent 61 (bookC dryS), q4.ent 54 (readsC dryS), (b20, .cells ⟨[.int .i64 dryS.weeks, .int .i64 dryS.most, .int .i64 dryS.fall, .int .i64 dryS.a0, .int .i64 dryS.a1, .int .i64 dryS.w0, .int .i64 dryS.w1, q3.val dryS.book.length, q4.val dryS.reads.length]⟩ 27 (0, 0)), q5.ent 61 (bookC (fullS 11)), qa.ent 54 (readsC (fullS 11)), (b21, .cells ⟨[.int .i64 (fullS 11).weeks, .int .i64 (fullS 11).most, .int .i64 (fullS 11).fall, .int .i64 (fullS 11).a0, .int .i64 (fullS 11).a1, .int .i64 (fullS 11).w0, .int .i64 (fullS 11).w1, q5.val (fullS 11).book.length, qa.val (fullS 11).reads.length]⟩ 27 (0, 0)), qb.ent 61 (bookC (longS 6)), q8.ent 54 (readsC (longS 6)), (b22, .cells ⟨[.int .i64 (longS 6).weeks, .int .i64 (longS 6).most, .int .i64 (longS 6).fall, .int .i64 (longS 6).a0, .int .i64 (longS 6).a1, .int .i64 (longS 6).w0, .int .i64 (longS 6).w1, qb.val (longS 6).book.length, q8.val (longS 6).reads.length]⟩ 27 (0, 0))]) (fun _ => []) (fun _ => True) ?_ ?_
      · refine SX.region ?_
        refine SXL.callF (SpR oddS) fn_68 rfl (fun w hI => odd_any w) ?_; rintro _ _ ⟨ra241, rb241, oa241, ob241, rfl, rfl⟩
        refine SXL.callF (IsR3 0 [] 8) fn_48 rfl (fun w hI => (srich_any oddS ra241.addr rb241.addr ra241.cap rb241.cap (by decide) (by decide) w (hg.inv hI) (spAtOwn hI oa241 ob241 (i := 12) (j := 13) rfl rfl)).mono (fun v own h => by rw [ey_rich.1, ey_rich.2, ey_or.2] at h; exact h)) ?_; rintro _ _ ⟨q242, u242, rfl, rfl⟩
        refine SXL.move rfl ?_
        refine SXL.extract rfl rfl ?_
        refine SXL.extract rfl rfl ?_
        refine SXL.extract rfl rfl ?_
        refine SXL.assign rfl ?_
        refine SXL.nil ?_
        refine thenQ.normal ?_
        refine ⟨(), MeetsW.mkS [0, 1, 2, 3, 4, 5, 6, 7, 8, 9, 10, 11] ⟨rfl, trivial⟩ ⟨rfl, rfl, rfl, rfl, rfl, rfl, rfl, rfl, rfl, rfl, rfl, rfl, rfl, trivial⟩ rfl, trivial⟩
      rintro _ _
      refine SX.cutW (α := Unit) [0, 2, 4, 6, 8, 10, 12, 14, 16, 19, 20, 21, 22] rfl (fun _ => [(18, .int .i64 11)]) (fun _ => [q1.ent 61 (bookC tornS), q2.ent 54 (readsC tornS), (b19, .cells ⟨[.int .i64 tornS.weeks, .int .i64 tornS.most, .int .i64 tornS.fall, .int .i64 tornS.a0, .int .i64 tornS.a1, .int .i64 tornS.w0, .int .i64 tornS.w1, q1.val tornS.book.length, q2.val tornS.reads.length]⟩ 27 (0, 0)), q3.ent 61 (bookC dryS), q4.ent 54 (readsC dryS), (b20, .cells ⟨[.int .i64 dryS.weeks, .int .i64 dryS.most, .int .i64 dryS.fall, .int .i64 dryS.a0, .int .i64 dryS.a1, .int .i64 dryS.w0, .int .i64 dryS.w1, q3.val dryS.book.length, q4.val dryS.reads.length]⟩ 27 (0, 0)), q5.ent 61 (bookC (fullS 11)), qa.ent 54 (readsC (fullS 11)), (b21, .cells ⟨[.int .i64 (fullS 11).weeks, .int .i64 (fullS 11).most, .int .i64 (fullS 11).fall, .int .i64 (fullS 11).a0, .int .i64 (fullS 11).a1, .int .i64 (fullS 11).w0, .int .i64 (fullS 11).w1, q5.val (fullS 11).book.length, qa.val (fullS 11).reads.length]⟩ 27 (0, 0)), qb.ent 61 (bookC (longS 6)), q8.ent 54 (readsC (longS 6)), (b22, .cells ⟨[.int .i64 (longS 6).weeks, .int .i64 (longS 6).most, .int .i64 (longS 6).fall, .int .i64 (longS 6).a0, .int .i64 (longS 6).a1, .int .i64 (longS 6).w0, .int .i64 (longS 6).w1, qb.val (longS 6).book.length, q8.val (longS 6).reads.length]⟩ 27 (0, 0))]) (fun _ => []) (fun _ => True) ?_ ?_
      · refine SX.region ?_
        refine SXL.callF (SpR oddS) fn_68 rfl (fun w hI => odd_any w) ?_; rintro _ _ ⟨ra247, rb247, oa247, ob247, rfl, rfl⟩
        refine SXL.call1 (.tuple ⟨[.agg ⟨[.int .i64 0, .int .i64 0]⟩, .int .i64 11]⟩) fn_50 rfl (fun w hI => (sfill_any oddS ra247.addr rb247.addr ra247.cap rb247.cap 4 0 (by decide) (by decide) _ (hg.inv hI) (spAtOwn hI oa247 ob247 (i := 12) (j := 13) rfl rfl)).eqv (by rw [ey_l4.1, ey_l4.2.1, ey_l4.2.2])) ?_
        refine SXL.move rfl ?_
        refine SXL.extract rfl rfl ?_
        refine SXL.extract rfl rfl ?_
        refine SXL.assign rfl ?_
        refine SXL.nil ?_
        refine thenQ.normal ?_
        refine ⟨(), MeetsW.mkS [0, 1, 2, 3, 4, 5, 6, 7, 8, 9, 10, 11] ⟨rfl, trivial⟩ ⟨rfl, rfl, rfl, rfl, rfl, rfl, rfl, rfl, rfl, rfl, rfl, rfl, rfl, trivial⟩ rfl, trivial⟩
      rintro _ _
      refine SX.cutW (α := Unit) [0, 2, 4, 6, 8, 10, 12, 14, 16, 18, 19, 20, 21, 22] rfl (fun _ => [(25, .int .i64 14)]) (fun _ => [q1.ent 61 (bookC tornS), q2.ent 54 (readsC tornS), (b19, .cells ⟨[.int .i64 tornS.weeks, .int .i64 tornS.most, .int .i64 tornS.fall, .int .i64 tornS.a0, .int .i64 tornS.a1, .int .i64 tornS.w0, .int .i64 tornS.w1, q1.val tornS.book.length, q2.val tornS.reads.length]⟩ 27 (0, 0)), q3.ent 61 (bookC dryS), q4.ent 54 (readsC dryS), (b20, .cells ⟨[.int .i64 dryS.weeks, .int .i64 dryS.most, .int .i64 dryS.fall, .int .i64 dryS.a0, .int .i64 dryS.a1, .int .i64 dryS.w0, .int .i64 dryS.w1, q3.val dryS.book.length, q4.val dryS.reads.length]⟩ 27 (0, 0)), q5.ent 61 (bookC (fullS 11)), qa.ent 54 (readsC (fullS 11)), (b21, .cells ⟨[.int .i64 (fullS 11).weeks, .int .i64 (fullS 11).most, .int .i64 (fullS 11).fall, .int .i64 (fullS 11).a0, .int .i64 (fullS 11).a1, .int .i64 (fullS 11).w0, .int .i64 (fullS 11).w1, q5.val (fullS 11).book.length, qa.val (fullS 11).reads.length]⟩ 27 (0, 0)), qb.ent 61 (bookC (longS 6)), q8.ent 54 (readsC (longS 6)), (b22, .cells ⟨[.int .i64 (longS 6).weeks, .int .i64 (longS 6).most, .int .i64 (longS 6).fall, .int .i64 (longS 6).a0, .int .i64 (longS 6).a1, .int .i64 (longS 6).w0, .int .i64 (longS 6).w1, qb.val (longS 6).book.length, q8.val (longS 6).reads.length]⟩ 27 (0, 0))]) (fun _ => []) (fun _ => True) ?_ ?_
      · refine SX.region ?_
        refine SXL.callF (SpR oddS) fn_68 rfl (fun w hI => odd_any w) ?_; rintro _ _ ⟨ra252, rb252, oa252, ob252, rfl, rfl⟩
        refine SXL.call1 (.tuple ⟨[.agg ⟨[.int .i64 0, .int .i64 0]⟩, .int .i64 14]⟩) fn_50 rfl (fun w hI => (sfill_any oddS ra252.addr rb252.addr ra252.cap rb252.cap 3 0 (by decide) (by decide) _ (hg.inv hI) (spAtOwn hI oa252 ob252 (i := 12) (j := 13) rfl rfl)).eqv (by rw [ey_l3.1, ey_l3.2.1, ey_l3.2.2])) ?_
        refine SXL.move rfl ?_
        refine SXL.extract rfl rfl ?_
        refine SXL.extract rfl rfl ?_
        refine SXL.alloc zp_23 ?_; intro b14
        refine SXL.store 14 sz_23 rfl rfl rfl rfl rfl rfl ?_
        refine SXL.assign rfl ?_
        refine SXL.nil ?_
        refine thenQ.normal ?_
        refine ⟨(), MeetsW.mkS [0, 1, 2, 3, 4, 5, 6, 7, 8, 9, 10, 11] ⟨rfl, trivial⟩ ⟨rfl, rfl, rfl, rfl, rfl, rfl, rfl, rfl, rfl, rfl, rfl, rfl, rfl, rfl, trivial⟩ rfl, trivial⟩
      rintro _ _
      refine SX.cutW (α := Unit) [0, 2, 4, 6, 8, 10, 12, 14, 16, 18, 19, 21, 22, 25] rfl (fun _ => [(27, .int .i64 6)]) (fun _ => [q1.ent 61 (bookC tornS), q2.ent 54 (readsC tornS), (b19, .cells ⟨[.int .i64 tornS.weeks, .int .i64 tornS.most, .int .i64 tornS.fall, .int .i64 tornS.a0, .int .i64 tornS.a1, .int .i64 tornS.w0, .int .i64 tornS.w1, q1.val tornS.book.length, q2.val tornS.reads.length]⟩ 27 (0, 0)), q3.ent 61 (bookC dryS), q4.ent 54 (readsC dryS), (b20, .cells ⟨[.int .i64 dryS.weeks, .int .i64 dryS.most, .int .i64 dryS.fall, .int .i64 dryS.a0, .int .i64 dryS.a1, .int .i64 dryS.w0, .int .i64 dryS.w1, q3.val dryS.book.length, q4.val dryS.reads.length]⟩ 27 (0, 0)), q5.ent 61 (bookC (fullS 11)), qa.ent 54 (readsC (fullS 11)), (b21, .cells ⟨[.int .i64 (fullS 11).weeks, .int .i64 (fullS 11).most, .int .i64 (fullS 11).fall, .int .i64 (fullS 11).a0, .int .i64 (fullS 11).a1, .int .i64 (fullS 11).w0, .int .i64 (fullS 11).w1, q5.val (fullS 11).book.length, qa.val (fullS 11).reads.length]⟩ 27 (0, 0)), qb.ent 61 (bookC (longS 6)), q8.ent 54 (readsC (longS 6)), (b22, .cells ⟨[.int .i64 (longS 6).weeks, .int .i64 (longS 6).most, .int .i64 (longS 6).fall, .int .i64 (longS 6).a0, .int .i64 (longS 6).a1, .int .i64 (longS 6).w0, .int .i64 (longS 6).w1, qb.val (longS 6).book.length, q8.val (longS 6).reads.length]⟩ 27 (0, 0))]) (fun _ => []) (fun _ => True) ?_ ?_
      · refine SX.region ?_
        refine SXL.loadNo 5 sh_27 rfl rfl rfl ?_
        refine SXL.call1 (.tuple ⟨[.agg ⟨[.int .i64 0, .int .i64 0]⟩, .int .i64 6]⟩) fn_50 rfl (fun w hI => (sfill_any dryS q3.addr q4.addr q3.cap q4.cap 3 1 (by decide) (by decide) _ (hg.inv hI) (spAtOwn (s := dryS) hI k3 k4 (i := 3) (j := 4) rfl rfl)).eqv (by rw [ey_ld.1, ey_ld.2.1, ey_ld.2.2])) ?_
        refine SXL.move rfl ?_
        refine SXL.extract rfl rfl ?_
        refine SXL.extract rfl rfl ?_
        refine SXL.alloc zp_23 ?_; intro b12
        refine SXL.store 12 sz_23 rfl rfl rfl rfl rfl rfl ?_
        refine SXL.assign rfl ?_
        refine SXL.nil ?_
        refine thenQ.normal ?_
        refine ⟨(), MeetsW.mkS [0, 1, 2, 3, 4, 5, 6, 7, 8, 9, 10, 11] ⟨rfl, trivial⟩ ⟨rfl, rfl, rfl, rfl, rfl, rfl, rfl, rfl, rfl, rfl, rfl, rfl, rfl, rfl, trivial⟩ rfl, trivial⟩
      rintro _ _
      refine SX.cutW (α := Unit) [0, 2, 4, 6, 8, 10, 12, 14, 16, 18, 19, 21, 22, 25, 27] rfl (fun _ => [(30, .int .i64 8)]) (fun _ => [q1.ent 61 (bookC tornS), q2.ent 54 (readsC tornS), (b19, .cells ⟨[.int .i64 tornS.weeks, .int .i64 tornS.most, .int .i64 tornS.fall, .int .i64 tornS.a0, .int .i64 tornS.a1, .int .i64 tornS.w0, .int .i64 tornS.w1, q1.val tornS.book.length, q2.val tornS.reads.length]⟩ 27 (0, 0)), q3.ent 61 (bookC dryS), q4.ent 54 (readsC dryS), (b20, .cells ⟨[.int .i64 dryS.weeks, .int .i64 dryS.most, .int .i64 dryS.fall, .int .i64 dryS.a0, .int .i64 dryS.a1, .int .i64 dryS.w0, .int .i64 dryS.w1, q3.val dryS.book.length, q4.val dryS.reads.length]⟩ 27 (0, 0)), q5.ent 61 (bookC (fullS 11)), qa.ent 54 (readsC (fullS 11)), (b21, .cells ⟨[.int .i64 (fullS 11).weeks, .int .i64 (fullS 11).most, .int .i64 (fullS 11).fall, .int .i64 (fullS 11).a0, .int .i64 (fullS 11).a1, .int .i64 (fullS 11).w0, .int .i64 (fullS 11).w1, q5.val (fullS 11).book.length, qa.val (fullS 11).reads.length]⟩ 27 (0, 0)), qb.ent 61 (bookC (longS 6)), q8.ent 54 (readsC (longS 6)), (b22, .cells ⟨[.int .i64 (longS 6).weeks, .int .i64 (longS 6).most, .int .i64 (longS 6).fall, .int .i64 (longS 6).a0, .int .i64 (longS 6).a1, .int .i64 (longS 6).w0, .int .i64 (longS 6).w1, qb.val (longS 6).book.length, q8.val (longS 6).reads.length]⟩ 27 (0, 0))]) (fun _ => []) (fun _ => True) ?_ ?_
      · refine SX.region ?_
        refine SXL.callF (SpR oddS) fn_68 rfl (fun w hI => odd_any w) ?_; rintro _ _ ⟨ra262, rb262, oa262, ob262, rfl, rfl⟩
        refine SXL.call1 (.tuple ⟨[.int .i64 0, .int .i64 0, .int .i64 8]⟩) fn_52 rfl (fun w hI => (slook_any oddS ra262.addr rb262.addr ra262.cap rb262.cap (by decide) (by decide) _ (hg.inv hI) (spAtOwn hI oa262 ob262 (i := 12) (j := 13) rfl rfl)).eqv (by rw [ey_look.1, ey_look.2, ey_or.2])) ?_
        refine SXL.move rfl ?_
        refine SXL.extract rfl rfl ?_
        refine SXL.extract rfl rfl ?_
        refine SXL.extract rfl rfl ?_
        refine SXL.assign rfl ?_
        refine SXL.assign rfl ?_
        refine SXL.assign rfl ?_
        refine SXL.nil ?_
        refine thenQ.normal ?_
        refine ⟨(), MeetsW.mkS [0, 1, 2, 3, 4, 5, 6, 7, 8, 9, 10, 11] ⟨rfl, trivial⟩ ⟨rfl, rfl, rfl, rfl, rfl, rfl, rfl, rfl, rfl, rfl, rfl, rfl, rfl, rfl, rfl, trivial⟩ rfl, trivial⟩
      rintro _ _
      refine SX.cutW (α := Unit) [0, 2, 4, 6, 8, 10, 12, 14, 16, 18, 19, 21, 22, 25, 27, 30] rfl (fun _ => [(32, .int .i64 12)]) (fun _ => [q1.ent 61 (bookC tornS), q2.ent 54 (readsC tornS), (b19, .cells ⟨[.int .i64 tornS.weeks, .int .i64 tornS.most, .int .i64 tornS.fall, .int .i64 tornS.a0, .int .i64 tornS.a1, .int .i64 tornS.w0, .int .i64 tornS.w1, q1.val tornS.book.length, q2.val tornS.reads.length]⟩ 27 (0, 0)), q3.ent 61 (bookC dryS), q4.ent 54 (readsC dryS), (b20, .cells ⟨[.int .i64 dryS.weeks, .int .i64 dryS.most, .int .i64 dryS.fall, .int .i64 dryS.a0, .int .i64 dryS.a1, .int .i64 dryS.w0, .int .i64 dryS.w1, q3.val dryS.book.length, q4.val dryS.reads.length]⟩ 27 (0, 0)), q5.ent 61 (bookC (fullS 11)), qa.ent 54 (readsC (fullS 11)), (b21, .cells ⟨[.int .i64 (fullS 11).weeks, .int .i64 (fullS 11).most, .int .i64 (fullS 11).fall, .int .i64 (fullS 11).a0, .int .i64 (fullS 11).a1, .int .i64 (fullS 11).w0, .int .i64 (fullS 11).w1, q5.val (fullS 11).book.length, qa.val (fullS 11).reads.length]⟩ 27 (0, 0)), qb.ent 61 (bookC (longS 6)), q8.ent 54 (readsC (longS 6)), (b22, .cells ⟨[.int .i64 (longS 6).weeks, .int .i64 (longS 6).most, .int .i64 (longS 6).fall, .int .i64 (longS 6).a0, .int .i64 (longS 6).a1, .int .i64 (longS 6).w0, .int .i64 (longS 6).w1, qb.val (longS 6).book.length, q8.val (longS 6).reads.length]⟩ 27 (0, 0))]) (fun _ => []) (fun _ => True) ?_ ?_
      · refine SX.region ?_
        refine SXL.callF (SpR oddS) fn_68 rfl (fun w hI => odd_any w) ?_; rintro _ _ ⟨ra268, rb268, oa268, ob268, rfl, rfl⟩
        refine SXL.call1 (.agg ⟨(⟨0, 1, 1, 1, 1⟩ : Rd).cells⟩) fn_69 rfl (fun w hI => mkRd_any ⟨0, 1, 1, 1, 1⟩ _) ?_
        refine SXL.call1 (.tuple ⟨[.agg ⟨[.int .i64 0, .int .i64 0]⟩, .int .i64 12]⟩) fn_30 rfl (fun w hI => (sread_any oddS ra268.addr rb268.addr ra268.cap rb268.cap ⟨0, 1, 1, 1, 1⟩ (by decide) (by decide) _ (hg.inv hI) (spAtOwn hI oa268 ob268 (i := 12) (j := 13) rfl rfl)).eqv (by rw [ey_r0.1, ey_r0.2.1, ey_r0.2.2])) ?_
        refine SXL.move rfl ?_
        refine SXL.extract rfl rfl ?_
        refine SXL.extract rfl rfl ?_
        refine SXL.alloc zp_23 ?_; intro b14
        refine SXL.store 14 sz_23 rfl rfl rfl rfl rfl rfl ?_
        refine SXL.assign rfl ?_
        refine SXL.nil ?_
        refine thenQ.normal ?_
        refine ⟨(), MeetsW.mkS [0, 1, 2, 3, 4, 5, 6, 7, 8, 9, 10, 11] ⟨rfl, trivial⟩ ⟨rfl, rfl, rfl, rfl, rfl, rfl, rfl, rfl, rfl, rfl, rfl, rfl, rfl, rfl, rfl, rfl, trivial⟩ rfl, trivial⟩
      rintro _ _
      refine SX.cutW (α := Unit) [0, 2, 4, 6, 8, 10, 12, 14, 16, 18, 19, 21, 22, 25, 27, 30, 32] rfl (fun _ => [(34, .int .i64 6)]) (fun _ => [q1.ent 61 (bookC tornS), q2.ent 54 (readsC tornS), (b19, .cells ⟨[.int .i64 tornS.weeks, .int .i64 tornS.most, .int .i64 tornS.fall, .int .i64 tornS.a0, .int .i64 tornS.a1, .int .i64 tornS.w0, .int .i64 tornS.w1, q1.val tornS.book.length, q2.val tornS.reads.length]⟩ 27 (0, 0)), q3.ent 61 (bookC dryS), q4.ent 54 (readsC dryS), (b20, .cells ⟨[.int .i64 dryS.weeks, .int .i64 dryS.most, .int .i64 dryS.fall, .int .i64 dryS.a0, .int .i64 dryS.a1, .int .i64 dryS.w0, .int .i64 dryS.w1, q3.val dryS.book.length, q4.val dryS.reads.length]⟩ 27 (0, 0)), q5.ent 61 (bookC (fullS 11)), qa.ent 54 (readsC (fullS 11)), (b21, .cells ⟨[.int .i64 (fullS 11).weeks, .int .i64 (fullS 11).most, .int .i64 (fullS 11).fall, .int .i64 (fullS 11).a0, .int .i64 (fullS 11).a1, .int .i64 (fullS 11).w0, .int .i64 (fullS 11).w1, q5.val (fullS 11).book.length, qa.val (fullS 11).reads.length]⟩ 27 (0, 0)), qb.ent 61 (bookC (longS 6)), q8.ent 54 (readsC (longS 6)), (b22, .cells ⟨[.int .i64 (longS 6).weeks, .int .i64 (longS 6).most, .int .i64 (longS 6).fall, .int .i64 (longS 6).a0, .int .i64 (longS 6).a1, .int .i64 (longS 6).w0, .int .i64 (longS 6).w1, qb.val (longS 6).book.length, q8.val (longS 6).reads.length]⟩ 27 (0, 0))]) (fun _ => []) (fun _ => True) ?_ ?_
      · refine SX.region ?_
        refine SXL.callF (SpR oddS) fn_68 rfl (fun w hI => odd_any w) ?_; rintro _ _ ⟨ra274, rb274, oa274, ob274, rfl, rfl⟩
        refine SXL.call1 (.agg ⟨(⟨1, 1, 10, 9, 10⟩ : Rd).cells⟩) fn_69 rfl (fun w hI => mkRd_any ⟨1, 1, 10, 9, 10⟩ _) ?_
        refine SXL.call1 (.tuple ⟨[.agg ⟨[.int .i64 0, .int .i64 0]⟩, .int .i64 6]⟩) fn_30 rfl (fun w hI => (sread_any oddS ra274.addr rb274.addr ra274.cap rb274.cap ⟨1, 1, 10, 9, 10⟩ (by decide) (by decide) _ (hg.inv hI) (spAtOwn hI oa274 ob274 (i := 12) (j := 13) rfl rfl)).eqv (by rw [ey_r1.1, ey_r1.2.1, ey_r1.2.2])) ?_
        refine SXL.move rfl ?_
        refine SXL.extract rfl rfl ?_
        refine SXL.extract rfl rfl ?_
        refine SXL.alloc zp_23 ?_; intro b14
        refine SXL.store 14 sz_23 rfl rfl rfl rfl rfl rfl ?_
        refine SXL.assign rfl ?_
        refine SXL.nil ?_
        refine thenQ.normal ?_
        refine ⟨(), MeetsW.mkS [0, 1, 2, 3, 4, 5, 6, 7, 8, 9, 10, 11] ⟨rfl, trivial⟩ ⟨rfl, rfl, rfl, rfl, rfl, rfl, rfl, rfl, rfl, rfl, rfl, rfl, rfl, rfl, rfl, rfl, rfl, trivial⟩ rfl, trivial⟩
      rintro _ _
      refine SX.cutW (α := Unit) [0, 2, 4, 6, 8, 10, 12, 14, 16, 18, 19, 21, 22, 25, 27, 30, 32, 34] rfl (fun _ => [(36, .int .i64 11)]) (fun _ => [q1.ent 61 (bookC tornS), q2.ent 54 (readsC tornS), (b19, .cells ⟨[.int .i64 tornS.weeks, .int .i64 tornS.most, .int .i64 tornS.fall, .int .i64 tornS.a0, .int .i64 tornS.a1, .int .i64 tornS.w0, .int .i64 tornS.w1, q1.val tornS.book.length, q2.val tornS.reads.length]⟩ 27 (0, 0)), q3.ent 61 (bookC dryS), q4.ent 54 (readsC dryS), (b20, .cells ⟨[.int .i64 dryS.weeks, .int .i64 dryS.most, .int .i64 dryS.fall, .int .i64 dryS.a0, .int .i64 dryS.a1, .int .i64 dryS.w0, .int .i64 dryS.w1, q3.val dryS.book.length, q4.val dryS.reads.length]⟩ 27 (0, 0)), q5.ent 61 (bookC (fullS 11)), qa.ent 54 (readsC (fullS 11)), (b21, .cells ⟨[.int .i64 (fullS 11).weeks, .int .i64 (fullS 11).most, .int .i64 (fullS 11).fall, .int .i64 (fullS 11).a0, .int .i64 (fullS 11).a1, .int .i64 (fullS 11).w0, .int .i64 (fullS 11).w1, q5.val (fullS 11).book.length, qa.val (fullS 11).reads.length]⟩ 27 (0, 0)), qb.ent 61 (bookC (longS 6)), q8.ent 54 (readsC (longS 6)), (b22, .cells ⟨[.int .i64 (longS 6).weeks, .int .i64 (longS 6).most, .int .i64 (longS 6).fall, .int .i64 (longS 6).a0, .int .i64 (longS 6).a1, .int .i64 (longS 6).w0, .int .i64 (longS 6).w1, qb.val (longS 6).book.length, q8.val (longS 6).reads.length]⟩ 27 (0, 0))]) (fun _ => []) (fun _ => True) ?_ ?_
      · refine SX.region ?_
        refine SXL.callF (SpR oddS) fn_68 rfl (fun w hI => odd_any w) ?_; rintro _ _ ⟨ra280, rb280, oa280, ob280, rfl, rfl⟩
        refine SXL.callF (IsR2 [] 11) fn_32 rfl (fun w hI => (srests_any oddS ra280.addr rb280.addr ra280.cap rb280.cap 4 (by decide) (by decide) w (hg.inv hI) (spAtOwn hI oa280 ob280 (i := 12) (j := 13) rfl rfl)).mono (fun v own h => by rw [ey_rests, ey_o4.2.2] at h; exact h)) ?_; rintro _ _ ⟨q281, u281, rfl, rfl⟩
        refine SXL.move rfl ?_
        refine SXL.extract rfl rfl ?_
        refine SXL.extract rfl rfl ?_
        refine SXL.assign rfl ?_
        refine SXL.assign rfl ?_
        refine SXL.nil ?_
        refine thenQ.normal ?_
        refine ⟨(), MeetsW.mkS [0, 1, 2, 3, 4, 5, 6, 7, 8, 9, 10, 11] ⟨rfl, trivial⟩ ⟨rfl, rfl, rfl, rfl, rfl, rfl, rfl, rfl, rfl, rfl, rfl, rfl, rfl, rfl, rfl, rfl, rfl, rfl, trivial⟩ rfl, trivial⟩
      rintro _ _
      refine SX.cutW (α := Unit) [0, 2, 4, 6, 8, 10, 12, 14, 16, 18, 19, 22, 25, 27, 30, 32, 34, 36] rfl (fun _ => [(38, .int .i64 9)]) (fun _ => [q1.ent 61 (bookC tornS), q2.ent 54 (readsC tornS), (b19, .cells ⟨[.int .i64 tornS.weeks, .int .i64 tornS.most, .int .i64 tornS.fall, .int .i64 tornS.a0, .int .i64 tornS.a1, .int .i64 tornS.w0, .int .i64 tornS.w1, q1.val tornS.book.length, q2.val tornS.reads.length]⟩ 27 (0, 0)), q3.ent 61 (bookC dryS), q4.ent 54 (readsC dryS), (b20, .cells ⟨[.int .i64 dryS.weeks, .int .i64 dryS.most, .int .i64 dryS.fall, .int .i64 dryS.a0, .int .i64 dryS.a1, .int .i64 dryS.w0, .int .i64 dryS.w1, q3.val dryS.book.length, q4.val dryS.reads.length]⟩ 27 (0, 0)), q5.ent 61 (bookC (fullS 11)), qa.ent 54 (readsC (fullS 11)), (b21, .cells ⟨[.int .i64 (fullS 11).weeks, .int .i64 (fullS 11).most, .int .i64 (fullS 11).fall, .int .i64 (fullS 11).a0, .int .i64 (fullS 11).a1, .int .i64 (fullS 11).w0, .int .i64 (fullS 11).w1, q5.val (fullS 11).book.length, qa.val (fullS 11).reads.length]⟩ 27 (0, 0)), qb.ent 61 (bookC (longS 6)), q8.ent 54 (readsC (longS 6)), (b22, .cells ⟨[.int .i64 (longS 6).weeks, .int .i64 (longS 6).most, .int .i64 (longS 6).fall, .int .i64 (longS 6).a0, .int .i64 (longS 6).a1, .int .i64 (longS 6).w0, .int .i64 (longS 6).w1, qb.val (longS 6).book.length, q8.val (longS 6).reads.length]⟩ 27 (0, 0))]) (fun _ => []) (fun _ => True) ?_ ?_
      · refine SX.region ?_
        refine SXL.loadNo 8 sh_27 rfl rfl rfl ?_
        refine SXL.buildS pl_54 zp_54 rfl (show _ = some (Rd.mk 0 0 0 0 0).cells from rfl) ?_
        refine SXL.callF (SpE zeroSp 9) fn_36 rfl (fun w hI => (sadd_any (fullS 11) q5.addr qa.addr q5.cap qa.cap ⟨0, 0, 0, 0, 0⟩ (by decide) (by decide) w (hg.inv hI) (spAtOwn (s := (fullS 11)) hI k5 ka (i := 6) (j := 7) rfl rfl)).mono (fun v own h => by rw [ey_a9.1, ey_a9.2] at h; exact h)) ?_; rintro _ _ ⟨ra287, rb287, oa287, ob287, rfl, rfl⟩
        refine SXL.move rfl ?_
        refine SXL.extract rfl rfl ?_
        refine SXL.extract rfl rfl ?_
        refine SXL.alloc zp_27 ?_; intro b14
        refine SXL.store 14 sz_27 rfl rfl rfl rfl rfl rfl ?_
        refine SXL.assign rfl ?_
        refine SXL.nil ?_
        refine thenQ.normal ?_
        refine ⟨(), MeetsW.mkS [0, 1, 2, 3, 4, 5, 6, 7, 8, 9, 10, 11] ⟨rfl, trivial⟩ ⟨rfl, rfl, rfl, rfl, rfl, rfl, rfl, rfl, rfl, rfl, rfl, rfl, rfl, rfl, rfl, rfl, rfl, rfl, trivial⟩ rfl, trivial⟩
      rintro _ _
      refine SX.cutW (α := Unit) [0, 2, 4, 6, 8, 10, 12, 14, 16, 18, 19, 22, 25, 27, 30, 32, 34, 36, 38] rfl (fun _ => [(40, .int .i64 12)]) (fun _ => [q1.ent 61 (bookC tornS), q2.ent 54 (readsC tornS), (b19, .cells ⟨[.int .i64 tornS.weeks, .int .i64 tornS.most, .int .i64 tornS.fall, .int .i64 tornS.a0, .int .i64 tornS.a1, .int .i64 tornS.w0, .int .i64 tornS.w1, q1.val tornS.book.length, q2.val tornS.reads.length]⟩ 27 (0, 0)), q3.ent 61 (bookC dryS), q4.ent 54 (readsC dryS), (b20, .cells ⟨[.int .i64 dryS.weeks, .int .i64 dryS.most, .int .i64 dryS.fall, .int .i64 dryS.a0, .int .i64 dryS.a1, .int .i64 dryS.w0, .int .i64 dryS.w1, q3.val dryS.book.length, q4.val dryS.reads.length]⟩ 27 (0, 0)), q5.ent 61 (bookC (fullS 11)), qa.ent 54 (readsC (fullS 11)), (b21, .cells ⟨[.int .i64 (fullS 11).weeks, .int .i64 (fullS 11).most, .int .i64 (fullS 11).fall, .int .i64 (fullS 11).a0, .int .i64 (fullS 11).a1, .int .i64 (fullS 11).w0, .int .i64 (fullS 11).w1, q5.val (fullS 11).book.length, qa.val (fullS 11).reads.length]⟩ 27 (0, 0)), qb.ent 61 (bookC (longS 6)), q8.ent 54 (readsC (longS 6)), (b22, .cells ⟨[.int .i64 (longS 6).weeks, .int .i64 (longS 6).most, .int .i64 (longS 6).fall, .int .i64 (longS 6).a0, .int .i64 (longS 6).a1, .int .i64 (longS 6).w0, .int .i64 (longS 6).w1, qb.val (longS 6).book.length, q8.val (longS 6).reads.length]⟩ 27 (0, 0))]) (fun _ => []) (fun _ => True) ?_ ?_
      · refine SX.region ?_
        refine SXL.callF (SpR fnt) fn_67 rfl (fun w hI => fountain_any [] none 0 (by simp) w (.nil _ _ _)) ?_; rintro _ _ ⟨ra291, rb291, oa291, ob291, rfl, rfl⟩
        refine SXL.call1 (.agg ⟨(⟨1, 0, 1, 0, 1⟩ : Rd).cells⟩) fn_69 rfl (fun w hI => mkRd_any ⟨1, 0, 1, 0, 1⟩ _) ?_
        refine SXL.callF (SpE zeroSp 12) fn_36 rfl (fun w hI => (sadd_any fnt ra291.addr rb291.addr ra291.cap rb291.cap ⟨1, 0, 1, 0, 1⟩ (by decide) (by decide) w (hg.inv hI) (spAtOwn hI oa291 ob291 (i := 12) (j := 13) rfl rfl)).mono (fun v own h => by rw [ey_a12.1, ey_a12.2] at h; exact h)) ?_; rintro _ _ ⟨ra293, rb293, oa293, ob293, rfl, rfl⟩
        refine SXL.move rfl ?_
        refine SXL.extract rfl rfl ?_
        refine SXL.extract rfl rfl ?_
        refine SXL.alloc zp_27 ?_; intro b16
        refine SXL.store 16 sz_27 rfl rfl rfl rfl rfl rfl ?_
        refine SXL.assign rfl ?_
        refine SXL.nil ?_
        refine thenQ.normal ?_
        refine ⟨(), MeetsW.mkS [0, 1, 2, 3, 4, 5, 6, 7, 8, 9, 10, 11] ⟨rfl, trivial⟩ ⟨rfl, rfl, rfl, rfl, rfl, rfl, rfl, rfl, rfl, rfl, rfl, rfl, rfl, rfl, rfl, rfl, rfl, rfl, rfl, trivial⟩ rfl, trivial⟩
      rintro _ _
      refine SX.cutW (α := Unit) [0, 2, 4, 6, 8, 10, 12, 14, 16, 18, 19, 25, 27, 30, 32, 34, 36, 38, 40] rfl (fun _ => [(42, .int .i64 9)]) (fun _ => [q1.ent 61 (bookC tornS), q2.ent 54 (readsC tornS), (b19, .cells ⟨[.int .i64 tornS.weeks, .int .i64 tornS.most, .int .i64 tornS.fall, .int .i64 tornS.a0, .int .i64 tornS.a1, .int .i64 tornS.w0, .int .i64 tornS.w1, q1.val tornS.book.length, q2.val tornS.reads.length]⟩ 27 (0, 0)), q3.ent 61 (bookC dryS), q4.ent 54 (readsC dryS), (b20, .cells ⟨[.int .i64 dryS.weeks, .int .i64 dryS.most, .int .i64 dryS.fall, .int .i64 dryS.a0, .int .i64 dryS.a1, .int .i64 dryS.w0, .int .i64 dryS.w1, q3.val dryS.book.length, q4.val dryS.reads.length]⟩ 27 (0, 0)), q5.ent 61 (bookC (fullS 11)), qa.ent 54 (readsC (fullS 11)), (b21, .cells ⟨[.int .i64 (fullS 11).weeks, .int .i64 (fullS 11).most, .int .i64 (fullS 11).fall, .int .i64 (fullS 11).a0, .int .i64 (fullS 11).a1, .int .i64 (fullS 11).w0, .int .i64 (fullS 11).w1, q5.val (fullS 11).book.length, qa.val (fullS 11).reads.length]⟩ 27 (0, 0)), qb.ent 61 (bookC (longS 6)), q8.ent 54 (readsC (longS 6)), (b22, .cells ⟨[.int .i64 (longS 6).weeks, .int .i64 (longS 6).most, .int .i64 (longS 6).fall, .int .i64 (longS 6).a0, .int .i64 (longS 6).a1, .int .i64 (longS 6).w0, .int .i64 (longS 6).w1, qb.val (longS 6).book.length, q8.val (longS 6).reads.length]⟩ 27 (0, 0))]) (fun _ => []) (fun _ => True) ?_ ?_
      · refine SX.region ?_
        refine SXL.loadNo 11 sh_27 rfl rfl rfl ?_
        refine SXL.buildS pl_61 zp_61 rfl (show _ = some zLn.cells from rfl) ?_
        refine SXL.callF (SpE zeroSp 9) fn_38 rfl (fun w hI => (swrite_any (longS 6) qb.addr q8.addr qb.cap q8.cap zLn (by decide) (by decide) w (hg.inv hI) (spAtOwn (s := (longS 6)) hI kb k8 (i := 9) (j := 10) rfl rfl)).mono (fun v own h => by rw [ey_w9.1, ey_w9.2] at h; exact h)) ?_; rintro _ _ ⟨ra299, rb299, oa299, ob299, rfl, rfl⟩
        refine SXL.move rfl ?_
        refine SXL.extract rfl rfl ?_
        refine SXL.extract rfl rfl ?_
        refine SXL.alloc zp_27 ?_; intro b14
        refine SXL.store 14 sz_27 rfl rfl rfl rfl rfl rfl ?_
        refine SXL.assign rfl ?_
        refine SXL.nil ?_
        refine thenQ.normal ?_
        refine ⟨(), MeetsW.mkS [0, 1, 2, 3, 4, 5, 6, 7, 8, 9, 10, 11] ⟨rfl, trivial⟩ ⟨rfl, rfl, rfl, rfl, rfl, rfl, rfl, rfl, rfl, rfl, rfl, rfl, rfl, rfl, rfl, rfl, rfl, rfl, rfl, trivial⟩ rfl, trivial⟩
      rintro _ _
      refine SX.cutW (α := Unit) [0, 2, 4, 6, 8, 10, 12, 14, 16, 18, 19, 25, 27, 30, 32, 34, 36, 38, 40, 42] rfl (fun _ => [(44, .int .i64 13)]) (fun _ => [q1.ent 61 (bookC tornS), q2.ent 54 (readsC tornS), (b19, .cells ⟨[.int .i64 tornS.weeks, .int .i64 tornS.most, .int .i64 tornS.fall, .int .i64 tornS.a0, .int .i64 tornS.a1, .int .i64 tornS.w0, .int .i64 tornS.w1, q1.val tornS.book.length, q2.val tornS.reads.length]⟩ 27 (0, 0)), q3.ent 61 (bookC dryS), q4.ent 54 (readsC dryS), (b20, .cells ⟨[.int .i64 dryS.weeks, .int .i64 dryS.most, .int .i64 dryS.fall, .int .i64 dryS.a0, .int .i64 dryS.a1, .int .i64 dryS.w0, .int .i64 dryS.w1, q3.val dryS.book.length, q4.val dryS.reads.length]⟩ 27 (0, 0)), q5.ent 61 (bookC (fullS 11)), qa.ent 54 (readsC (fullS 11)), (b21, .cells ⟨[.int .i64 (fullS 11).weeks, .int .i64 (fullS 11).most, .int .i64 (fullS 11).fall, .int .i64 (fullS 11).a0, .int .i64 (fullS 11).a1, .int .i64 (fullS 11).w0, .int .i64 (fullS 11).w1, q5.val (fullS 11).book.length, qa.val (fullS 11).reads.length]⟩ 27 (0, 0)), qb.ent 61 (bookC (longS 6)), q8.ent 54 (readsC (longS 6)), (b22, .cells ⟨[.int .i64 (longS 6).weeks, .int .i64 (longS 6).most, .int .i64 (longS 6).fall, .int .i64 (longS 6).a0, .int .i64 (longS 6).a1, .int .i64 (longS 6).w0, .int .i64 (longS 6).w1, qb.val (longS 6).book.length, q8.val (longS 6).reads.length]⟩ 27 (0, 0))]) (fun _ => []) (fun _ => True) ?_ ?_
      · refine SX.region ?_
        refine SXL.callF (SpR fnt) fn_67 rfl (fun w hI => fountain_any [] none 0 (by simp) w (.nil _ _ _)) ?_; rintro _ _ ⟨ra303, rb303, oa303, ob303, rfl, rfl⟩
        refine SXL.buildS pl_61 zp_61 rfl (show _ = some ex2.cells from rfl) ?_
        refine SXL.callF (SpE zeroSp 13) fn_38 rfl (fun w hI => (swrite_any fnt ra303.addr rb303.addr ra303.cap rb303.cap ex2 (by decide) (by decide) w (hg.inv hI) (spAtOwn hI oa303 ob303 (i := 12) (j := 13) rfl rfl)).mono (fun v own h => by rw [ey_w13.1, ey_w13.2] at h; exact h)) ?_; rintro _ _ ⟨ra305, rb305, oa305, ob305, rfl, rfl⟩
        refine SXL.move rfl ?_
        refine SXL.extract rfl rfl ?_
        refine SXL.extract rfl rfl ?_
        refine SXL.alloc zp_27 ?_; intro b16
        refine SXL.store 16 sz_27 rfl rfl rfl rfl rfl rfl ?_
        refine SXL.assign rfl ?_
        refine SXL.nil ?_
        refine thenQ.normal ?_
        refine ⟨(), MeetsW.mkS [0, 1, 2, 3, 4, 5, 6, 7, 8, 9, 10, 11] ⟨rfl, trivial⟩ ⟨rfl, rfl, rfl, rfl, rfl, rfl, rfl, rfl, rfl, rfl, rfl, rfl, rfl, rfl, rfl, rfl, rfl, rfl, rfl, rfl, trivial⟩ rfl, trivial⟩
      rintro _ _
      refine SX.cutW (α := Unit) [0, 2, 4, 6, 8, 10, 12, 14, 16, 18, 19, 25, 27, 30, 32, 34, 36, 38, 40, 42, 44] rfl (fun _ => [(46, .int .i64 12)]) (fun _ => [q1.ent 61 (bookC tornS), q2.ent 54 (readsC tornS), (b19, .cells ⟨[.int .i64 tornS.weeks, .int .i64 tornS.most, .int .i64 tornS.fall, .int .i64 tornS.a0, .int .i64 tornS.a1, .int .i64 tornS.w0, .int .i64 tornS.w1, q1.val tornS.book.length, q2.val tornS.reads.length]⟩ 27 (0, 0)), q3.ent 61 (bookC dryS), q4.ent 54 (readsC dryS), (b20, .cells ⟨[.int .i64 dryS.weeks, .int .i64 dryS.most, .int .i64 dryS.fall, .int .i64 dryS.a0, .int .i64 dryS.a1, .int .i64 dryS.w0, .int .i64 dryS.w1, q3.val dryS.book.length, q4.val dryS.reads.length]⟩ 27 (0, 0)), q5.ent 61 (bookC (fullS 11)), qa.ent 54 (readsC (fullS 11)), (b21, .cells ⟨[.int .i64 (fullS 11).weeks, .int .i64 (fullS 11).most, .int .i64 (fullS 11).fall, .int .i64 (fullS 11).a0, .int .i64 (fullS 11).a1, .int .i64 (fullS 11).w0, .int .i64 (fullS 11).w1, q5.val (fullS 11).book.length, qa.val (fullS 11).reads.length]⟩ 27 (0, 0)), qb.ent 61 (bookC (longS 6)), q8.ent 54 (readsC (longS 6)), (b22, .cells ⟨[.int .i64 (longS 6).weeks, .int .i64 (longS 6).most, .int .i64 (longS 6).fall, .int .i64 (longS 6).a0, .int .i64 (longS 6).a1, .int .i64 (longS 6).w0, .int .i64 (longS 6).w1, qb.val (longS 6).book.length, q8.val (longS 6).reads.length]⟩ 27 (0, 0))]) (fun _ => []) (fun _ => True) ?_ ?_
      · refine SX.region ?_
        refine SXL.callF (SpR fnt) fn_67 rfl (fun w hI => fountain_any [] none 0 (by simp) w (.nil _ _ _)) ?_; rintro _ _ ⟨ra309, rb309, oa309, ob309, rfl, rfl⟩
        refine SXL.buildSlice et_35 zp_3 rfl rfl rfl rfl ?_; intro b14
        refine SXL.callF (SpE zeroSp 12) fn_40 rfl (fun w hI => (sstrike_any fnt ra309.addr rb309.addr ra309.cap rb309.cap [2] (some ⟨b14, 0, none⟩) 1 (by decide) (by decide) (by decide) w (hg.inv hI) (spAtOwn hI oa309 ob309 (i := 12) (j := 13) rfl rfl) (ownOnes hI (i := 14) [2] rfl)).mono (fun v own h => by rw [ey_st.1, ey_st.2] at h; exact h)) ?_; rintro _ _ ⟨ra311, rb311, oa311, ob311, rfl, rfl⟩
        refine SXL.move rfl ?_
        refine SXL.extract rfl rfl ?_
        refine SXL.extract rfl rfl ?_
        refine SXL.alloc zp_27 ?_; intro b17
        refine SXL.store 17 sz_27 rfl rfl rfl rfl rfl rfl ?_
        refine SXL.assign rfl ?_
        refine SXL.nil ?_
        refine thenQ.normal ?_
        refine ⟨(), MeetsW.mkS [0, 1, 2, 3, 4, 5, 6, 7, 8, 9, 10, 11] ⟨rfl, trivial⟩ ⟨rfl, rfl, rfl, rfl, rfl, rfl, rfl, rfl, rfl, rfl, rfl, rfl, rfl, rfl, rfl, rfl, rfl, rfl, rfl, rfl, rfl, trivial⟩ rfl, trivial⟩
      rintro _ _
      refine SX.seq ?_
      refine SX.region ?_
      refine SXL.move rfl ?_
      refine SXL.eqlT rfl rfl ?_
      refine SXL.move rfl ?_
      refine SXL.move rfl ?_
      refine SXL.eqlT rfl rfl ?_
      refine SXL.pickAt (EnvSub.refl _) rfl rfl ?_ rfl rfl
      refine SXL.move rfl ?_
      refine SXL.move rfl ?_
      refine SXL.eqlT rfl rfl ?_
      refine SXL.pickAt (EnvSub.refl _) rfl rfl ?_ rfl rfl
      refine SXL.move rfl ?_
      refine SXL.move rfl ?_
      refine SXL.eqlT rfl rfl ?_
      refine SXL.pickAt (EnvSub.refl _) rfl rfl ?_ rfl rfl
      refine SXL.move rfl ?_
      refine SXL.move rfl ?_
      refine SXL.eqlT rfl rfl ?_
      refine SXL.pickAt (EnvSub.refl _) rfl rfl ?_ rfl rfl
      refine SXL.move rfl ?_
      refine SXL.move rfl ?_
      refine SXL.eqlT rfl rfl ?_
      refine SXL.pickAt (EnvSub.refl _) rfl rfl ?_ rfl rfl
      refine SXL.move rfl ?_
      refine SXL.move rfl ?_
      refine SXL.eqlT rfl rfl ?_
      refine SXL.pickAt (EnvSub.refl _) rfl rfl ?_ rfl rfl
      refine SXL.move rfl ?_
      refine SXL.move rfl ?_
      refine SXL.eqlT rfl rfl ?_
      refine SXL.pickAt (EnvSub.refl _) rfl rfl ?_ rfl rfl
      refine SXL.move rfl ?_
      refine SXL.move rfl ?_
      refine SXL.eqlT rfl rfl ?_
      refine SXL.pickAt (EnvSub.refl _) rfl rfl ?_ rfl rfl
      refine SXL.move rfl ?_
      refine SXL.move rfl ?_
      refine SXL.eqlT rfl rfl ?_
      refine SXL.pickAt (EnvSub.refl _) rfl rfl ?_ rfl rfl
      refine SXL.move rfl ?_
      refine SXL.move rfl ?_
      refine SXL.eqlT rfl rfl ?_
      refine SXL.pickAt (EnvSub.refl _) rfl rfl ?_ rfl rfl
      refine SXL.move rfl ?_
      refine SXL.move rfl ?_
      refine SXL.eqlT rfl rfl ?_
      refine SXL.pickAt (EnvSub.refl _) rfl rfl ?_ rfl rfl
      refine SXL.move rfl ?_
      refine SXL.move rfl ?_
      refine SXL.eqlT rfl rfl ?_
      refine SXL.pickAt (EnvSub.refl _) rfl rfl ?_ rfl rfl
      refine SXL.move rfl ?_
      refine SXL.move rfl ?_
      refine SXL.eqlT rfl rfl ?_
      refine SXL.pickAt (EnvSub.refl _) rfl rfl ?_ rfl rfl
      refine SXL.move rfl ?_
      refine SXL.move rfl ?_
      refine SXL.eqlT rfl rfl ?_
      refine SXL.pickAt (EnvSub.refl _) rfl rfl ?_ rfl rfl
      refine SXL.move rfl ?_
      refine SXL.move rfl ?_
      refine SXL.eqlT rfl rfl ?_
      refine SXL.pickAt (EnvSub.refl _) rfl rfl ?_ rfl rfl
      refine SXL.move rfl ?_
      refine SXL.move rfl ?_
      refine SXL.eqlT rfl rfl ?_
      refine SXL.pickAt (EnvSub.refl _) rfl rfl ?_ rfl rfl
      refine SXL.move rfl ?_
      refine SXL.move rfl ?_
      refine SXL.eqlT rfl rfl ?_
      refine SXL.pickAt (EnvSub.refl _) rfl rfl ?_ rfl rfl
      refine SXL.move rfl ?_
      refine SXL.move rfl ?_
      refine SXL.eqlT rfl rfl ?_
      refine SXL.pickAt (EnvSub.refl _) rfl rfl ?_ rfl rfl
      refine SXL.move rfl ?_
      refine SXL.move rfl ?_
      refine SXL.eqlT rfl rfl ?_
      refine SXL.pickAt (EnvSub.refl _) rfl rfl ?_ rfl rfl
      refine SXL.move rfl ?_
      refine SXL.loadNo 2 sh_27 rfl rfl rfl ?_
      refine SXL.call1 (.int .i64 10) fn_26 rfl (fun w hI => (scheck_any tornS q1.addr q2.addr q1.cap q2.cap (by decide) (by decide) _ (hg.inv hI) (spAtOwn (s := tornS) hI k1 k2 (i := 0) (j := 1) rfl rfl)).eqv (by rw [if_neg ey_torn])) ?_
      refine SXL.eqlT rfl rfl ?_
      refine SXL.pickAt (EnvSub.refl _) rfl rfl ?_ rfl rfl
      refine SXL.move rfl ?_
      refine SXL.callF (SpR fnt) fn_67 rfl (fun w hI => fountain_any [] none 0 (by simp) w (.nil _ _ _)) ?_; rintro _ _ ⟨ra398, rb398, oa398, ob398, rfl, rfl⟩
      refine SXL.call1 (.int .i64 0) fn_26 rfl (fun w hI => (scheck_any fnt ra398.addr rb398.addr ra398.cap rb398.cap (by decide) (by decide) _ (hg.inv hI) (spAtOwn hI oa398 ob398 (i := 12) (j := 13) rfl rfl)).eqv (by rw [if_pos fx_valid])) ?_
      refine SXL.eqlT rfl rfl ?_
      refine SXL.pickAt (EnvSub.refl _) rfl rfl ?_ rfl rfl
      refine SXL.assign rfl ?_
      refine SXL.nil ?_
      refine thenQ.normal ?_
      refine SX.ret ?_
      refine retQ.dead [] rfl ?_
      refine retQ.one (ResAt.tmp rfl) ?_
      rfl
end Go.Proofs.YtknflipongbngaaDoor

/- SpringExamples: whatever the input, the law returns true and the input reads as it did. Its condition: the package's variables are as the program's text lays them (the card ties them). -/
namespace Go.Proofs.YtknflipongbngaaDoor.SpringExamples
open Go Go.X Go.S Go.RowKit Go.ChangeShapes Go.WideShapes Go.ChangeAt
set_option maxRecDepth 100000
/-- The door's own heap meets the condition. -/
theorem door_met (os : Os) (args : Array Value) : laidMetH Tryd.prog Rows.springExamplesRow.laid ((World.doorLaid Tryd.prog 24 os).forCall (fun _ _ => 0) ⟨#[], args, []⟩).memory :=
  laidMetH_of_parts3 (fuel := 8) (laidMet_of_run' 8 (by kernel_rfl) (by kernel_rfl)) (by kernel_rfl) (by kernel_rfl)
theorem spec_fn (H : Type) (ds : List (DataW H)) (h : ds.length = Tryd.f14.params.toList.length) : Rows.springExamplesSpec.fn H ds = { results := [.lit (.bool true)], args := ds } := by
  rw [Tryd.params14] at h
  match ds, h with
  | [], _ => rfl
theorem contract (H : Type) (enc : TypeId × Value → H) (W : World) (base : Nat) (args : Array Value) (ds gs : List (DataW H)) (before : List MemPlace)
    (hval : ∀ (j : Nat) t v, Tryd.f14.params[j]? = some t → args[j]? = some v → Value.okWide Tryd.prog W .any base t v)
    (hW : DataW.Whole enc Tryd.prog Tryd.f14.params.toList Rows.springExamplesSpec.vars false W args.toList ds gs before) (hL : laidMetH Tryd.prog Rows.springExamplesRow.laid W) :
    Calls Tryd.prog 14 args W fun e W' => ∃ v, e = .returned v ∧ Rows.springExamplesSpec.post enc Tryd.prog Tryd.f14 false true false false W args v W' := by
  have hW' := hW
  obtain ⟨p, q, hA0, hV, rfl, hfz, hnd⟩ := hW
  have hA : DataW.TrodAll enc Tryd.prog W 0 (fun _ => true) true Tryd.f14.params.toList args.toList ds p := hA0
  rw [Tryd.params14] at hA hval
  obtain ⟨hvn, rfl, hpn⟩ := trodAll_nil hA
  have hargs : args = #[] := by cases args; simp_all
  subst hargs
  have hg : Gl W := ⟨checks_of_laid hL (by simp [Rows.springExamplesRow]), none_of_laid hL rfl⟩
  refine Calls.mono (show Calls Tryd.prog 14 _ W _ from examples_law W hg) ?_
  rintro e W' ⟨v, own, rfl, hI, rfl⟩
  exact ⟨_, rfl, law_post laidOut (by rw [Tryd.params14]; kernel_rfl) rfl (spec_fn H) (tb := 4) (by kernel_rfl) Tryd.underlying4 hW' hI.below⟩
theorem lifted (os : Os) (started : os.Started) (H : Type) (enc : TypeId × Value → H) :
    ReturnsInHanded {} Tryd.checked os 14 .any (fun w args => (Rows.springExamplesSpec.pre enc Tryd.prog Tryd.f14 [] false w args ∧ laidMetH Tryd.prog Rows.springExamplesRow.laid w) ∧ sizedMet enc Tryd.prog Tryd.f14 (OpenSpec.ofChange Rows.springExamplesSpec) false w args)
      (Rows.springExamplesSpec.post enc Tryd.prog Tryd.f14 false true false false) := by
  refine returnsInHanded_of_change_and (C := Tryd.checked) (X := fun w _ => laidMetH Tryd.prog Rows.springExamplesRow.laid w) (fun _ _ _ hh h => h.of_heap hh) ownGd started (by kernel_rfl) Tryd.func14
    (ChangeSpec.witness_shaped (enc := enc) (C := Tryd.checked) (os := os) (X := fun w _ => laidMetH Tryd.prog Rows.springExamplesRow.laid w) false (World.doorLaid Tryd.prog 24 os) #[] 8 rfl (World.shaped_of_RefB (by kernel_rfl) (by kernel_rfl)) (by kernel_rfl) (by kernel_rfl) (by kernel_rfl) (door_met os _)) ?_
  intro W base args ds gs before hval0 hW _ _ hL _
  exact contract H enc W base args ds gs before hval0 hW hL
theorem said : Rows.SpringExamplesSaid :=
  OpenClaim.holds_of_wide 14 Tryd.f14 rfl rfl rfl rfl rfl rfl rfl ⟨rfl, rfl, rfl, rfl, rfl⟩ rfl rfl rfl rfl rfl (by kernel_rfl) Tryd.func14 (by kernel_rfl)
    (of_decide_eq_true (by kernel_rfl)) (by unfold Func.isWrapper; first | (rw [if_pos (by decide +kernel)]; kernel_rfl) | (rw [if_neg (by decide +kernel)]; exact ⟨rfl, rfl⟩))
    (fun os started H enc _ => lifted os started H enc)
theorem plain (f : FuncId) (fn : Func) (hf : Tryd.pinned.checked.prog.funcNamed "aguador/aguadorlaw01.SpringExamples" = some f) (hfn : Tryd.pinned.checked.prog.funcs[f]? = some fn) :
    false = Tryd.pinned.checked.prog.looks [] ∧ ∀ (j : Nat) t, fn.params[j]? = some t → Tryd.pinned.checked.prog.wantsStandIn t = false := by
  obtain rfl : f = 14 := Option.some.inj ((show Tryd.prog.funcNamed "aguador/aguadorlaw01.SpringExamples" = some 14 by kernel_rfl).symm.trans hf) |>.symm
  obtain rfl : fn = Tryd.f14 := (Option.some.inj (Tryd.func14.symm.trans hfn)).symm
  refine ⟨by kernel_rfl, fun j t ht => ?_⟩
  rw [Tryd.params14] at ht
  have hm : t ∈ ([] : List TypeId) := by simpa using Array.mem_of_getElem? ht
  have hall : (([] : List TypeId).all fun u => !Tryd.prog.wantsStandIn u) = true := by kernel_rfl
  exact (show Tryd.prog.wantsStandIn t = false by simpa using List.all_eq_true.1 hall t hm)
theorem springExamples_card : Rows.SpringExamplesCardSaid :=
  Claim7.holds_tied_plain_at .later [] _ _ _ _ said (fun _ h => by cases h) (by kernel_rfl) (fun _ h => by cases h) springExamples_row_tie rfl ⟨rfl, rfl⟩ (by kernel_rfl) rfl plain (by kernel_rfl)
end Go.Proofs.YtknflipongbngaaDoor.SpringExamples
