/- Texts of the proof, merged: U2, XMap, U3, U4, U5, U6, T11, TD4, XSi, XSt, U7, XSm, XIns, U8, U9, R1. -/
import Derived.Test.YtolcicaclflagaaDoorMTownShares3
import Derived.Lib.Overlaps
import Derived.Lib.AppendZeros
/- The walks of the package town: weeks, supplies at work. -/
namespace Go.Proofs.YtolcicaclflagaaDoor
open Go.X Go.S Go.T Go.RowKit
theorem isNaN_any (a : Int) (w : World) :
    CallsR Tryd.prog 96 [.int .i64 a] w (fun v _ => v = .bool (decide (False))) := by
  refine CallsR.of_SX (n := 6) (rs := [.tmp 2]) Tryd.func96 rfl rfl rfl rfl ?_
  show SX _ _ _ ⟨[(0, .int .i64 a)], [], []⟩
  refine SX.seq ?_
  refine SX.region ?_
  refine SXL.assign rfl ?_
  refine SXL.nil ?_
  refine thenQ.normal ?_
  refine SX.seq ?_
  refine SX.region ?_
  refine SXL.move rfl ?_
  refine SXL.move rfl ?_
  refine SXL.neqI rfl rfl ?_
  refine SXL.assign rfl ?_
  refine SXL.nil ?_
  refine thenQ.normal ?_
  refine SX.ret ?_
  refine retQ.one (ResAt.tmp rfl) ?_
  exact congrArg Value.bool (decide_eq_decide.2 (by simp))
theorem compare_any (a b : Int) (w : World) :
    CallsR Tryd.prog 72 [.int .i64 a, .int .i64 b] w (fun v _ => v = .int .i64 (cmpV a b)) := by
  refine CallsR.of_SX (n := 20) (rs := [.tmp 4]) Tryd.func72 rfl rfl rfl rfl ?_
  show SX _ _ _ ⟨[(0, .int .i64 a), (1, .int .i64 b)], [], []⟩
  refine SX.seq ?_
  refine SX.region ?_
  refine SXL.assign rfl ?_
  refine SXL.nil ?_
  refine thenQ.normal ?_
  refine SX.seq ?_
  refine SX.region ?_
  refine SXL.move rfl ?_
  refine SXL.call1 (.bool (decide (False))) fn_96 rfl (fun w hI => isNaN_any _ _) ?_
  refine SXL.assign rfl ?_
  refine SXL.nil ?_
  refine thenQ.normal ?_
  refine SX.seq ?_
  refine SX.region ?_
  refine SXL.move rfl ?_
  refine SXL.call1 (.bool (decide (False))) fn_96 rfl (fun w hI => isNaN_any _ _) ?_
  refine SXL.assign rfl ?_
  refine SXL.nil ?_
  refine thenQ.normal ?_
  refine SX.seq ?_
  refine SX.seq ?_
  refine SX.region ?_
  refine SXL.move rfl ?_
  refine SXL.nil ?_
  refine thenQ.normal ?_
  refine SX.condP rfl (fun c11 => ?_) (fun c11 => ?_)
  · exfalso; exact c11
  refine SX.skip ?_
  refine thenQ.normal ?_
  refine SX.seq ?_
  refine SX.seq ?_
  refine SX.region ?_
  refine SXL.move rfl ?_
  refine SXL.nil ?_
  refine thenQ.normal ?_
  refine SX.condP rfl (fun c13 => ?_) (fun c13 => ?_)
  · exfalso; exact c13
  refine SX.skip ?_
  refine thenQ.normal ?_
  refine SX.seq ?_
  refine SX.seq ?_
  refine SX.region ?_
  refine SXL.move rfl ?_
  refine SXL.move rfl ?_
  refine SXL.lss rfl rfl ?_
  refine SXL.nil ?_
  refine thenQ.normal ?_
  refine SX.condP rfl (fun c16 => ?_) (fun c16 => ?_)
  · refine SX.seq ?_
    refine SX.region ?_
    refine SXL.assign rfl ?_
    refine SXL.nil ?_
    refine thenQ.normal ?_
    refine SX.ret ?_
    refine thenQ.ret ?_
    refine retQ.one (ResAt.tmp rfl) ?_
    rw [cmpV, if_pos c16]
  · refine SX.skip ?_
    refine thenQ.normal ?_
    refine SX.seq ?_
    refine SX.seq ?_
    refine SX.region ?_
    refine SXL.move rfl ?_
    refine SXL.move rfl ?_
    refine SXL.gtr rfl rfl ?_
    refine SXL.nil ?_
    refine thenQ.normal ?_
    refine SX.condP rfl (fun c19 => ?_) (fun c19 => ?_)
    · refine SX.seq ?_
      refine SX.region ?_
      refine SXL.assign rfl ?_
      refine SXL.nil ?_
      refine thenQ.normal ?_
      refine SX.ret ?_
      refine thenQ.ret ?_
      refine retQ.one (ResAt.tmp rfl) ?_
      rw [cmpV, if_neg c16, if_pos c19]
    · refine SX.skip ?_
      refine thenQ.normal ?_
      refine SX.seq ?_
      refine SX.region ?_
      refine SXL.assign rfl ?_
      refine SXL.nil ?_
      refine thenQ.normal ?_
      refine SX.ret ?_
      refine retQ.one (ResAt.tmp rfl) ?_
      rw [cmpV, if_neg c16, if_neg c19]
theorem weeks1_any (x y : Fo) (a b : FA) (w : World) :
    CallsR Tryd.prog 86 [.agg ⟨foC x a⟩, .agg ⟨foC y b⟩] w (fun v _ => v = .int .i64 (cmpV x.sp.weeks y.sp.weeks)) := by
  refine CallsR.of_SX (n := 12) (rs := [.tmp 4]) Tryd.func86 rfl rfl rfl rfl ?_
  show SX _ _ _ ⟨[(0, .agg ⟨foC x a⟩), (1, .agg ⟨foC y b⟩)], [], []⟩
  refine SX.seq ?_
  refine SX.region ?_
  refine SXL.box rfl rfl ?_; intro b0
  refine SXL.box rfl rfl ?_; intro b1
  refine SXL.assign rfl ?_
  refine SXL.nil ?_
  refine thenQ.normal ?_
  refine SX.seq ?_
  refine SX.region ?_
  refine SXL.fieldAddr fp_70_1 rfl ?_
  refine SXL.fieldAddr fp_68_0 rfl ?_
  refine SXL.load1o 0 sh_3 rfl rfl rfl ?_
  refine SXL.fieldAddr fp_70_1 rfl ?_
  refine SXL.fieldAddr fp_68_0 rfl ?_
  refine SXL.load1o 1 sh_3 rfl rfl rfl ?_
  refine SXL.call1 (.int .i64 (cmpV x.sp.weeks y.sp.weeks)) fn_72 rfl (fun w hI => compare_any _ _ _) ?_
  refine SXL.assign rfl ?_
  refine SXL.nil ?_
  refine thenQ.normal ?_
  refine SX.ret ?_
  refine retQ.one (ResAt.tmp rfl) ?_
  rfl
theorem minFounts (u : Su) (fo : Option Addr) (fc : Nat) (fa : Nat → FA) (hl : 0 < u.founts.length) (hl2 : u.founts.length ≤ 1000) (w : World) (h : RowsAt w fo 10 (foRows u fa)) :
    CallsR Tryd.prog 100 [.slice fo u.founts.length fc, .func (.func 86) ⟨[]⟩ ⟨[]⟩] w (fun v _ => v = .agg ⟨foC (u.founts.getD (amin (wkF u) (u.founts.length - 1)) default) (fa (amin (wkF u) (u.founts.length - 1)))⟩) := by
  refine CallsR.of_SX (n := 33) (rs := [.cell 4 70]) Tryd.func100 rfl rfl rfl rfl ?_
  show SX _ _ _ ⟨[(0, .slice fo u.founts.length fc), (1, .func (.func 86) ⟨[]⟩ ⟨[]⟩)], [], []⟩
  refine SX.seq ?_
  refine SX.region ?_
  refine SXL.alloc zp_70 ?_; intro b0
  refine SXL.nil ?_
  refine thenQ.normal ?_
  refine SX.seq ?_
  refine SX.seq ?_
  refine SX.region ?_
  refine SXL.move rfl ?_
  refine SXL.len is_22 rfl ?_
  refine SXL.lss rfl rfl ?_
  refine SXL.nil ?_
  refine thenQ.normal ?_
  refine SX.condP rfl (fun c9 => ?_) (fun c9 => ?_)
  · exfalso; omega
  refine SX.skip ?_
  refine thenQ.normal ?_
  refine SX.seq ?_
  obtain ⟨ba, oa, ha0, hm0⟩ := h.get (foRows_get (i := 0) hl)
  refine SX.region ?_
  refine SXL.move rfl ?_
  refine SXL.indexR el_22 rfl rfl ha0 (by omega) ?_
  refine SXL.loadN sh_70 rfl (hm0 _) rfl ?_
  refine SXL.alloc zp_70 ?_; intro b1
  refine SXL.store 1 sz_70 rfl rfl rfl rfl rfl rfl ?_
  refine SXL.nil ?_
  refine thenQ.normal ?_
  refine SX.seq ?_
  refine SX.seq ?_
  refine SX.region ?_
  refine SXL.assign rfl ?_
  refine SXL.nil ?_
  refine thenQ.normal ?_
  refine SX.block ?_
  refine SX.loopW (α := Nat × Nat) [0, 1, 4, 5] rfl (fun ⟨k, j⟩ => [(6, .int .i64 ((k : Int)))]) (fun ⟨k, j⟩ => [(b0, .cells ⟨[.int .i64 0, .int .i64 0, .int .i64 0, .int .i64 0, .int .i64 0, .int .i64 0, .int .i64 0, .int .i64 0, .slice none 0 0, .slice none 0 0]⟩ 70 (0, 0)), (b1, .cells ⟨foC (u.founts.getD j default) (fa j)⟩ 70 (0, 0))]) (fun ⟨k, j⟩ => []) (fun ⟨k, j⟩ => 1 ≤ k ∧ k ≤ u.founts.length ∧ j = amin (wkF u) (k - 1)) (fun ⟨k, j⟩ => u.founts.length - k) (1, 0) ⟨Nat.le_refl _, by omega, rfl⟩ ⟨rfl, trivial⟩ rfl ?_
  rintro ⟨k, j⟩ ⟨hk1, hk, hj⟩
  refine SX.seq ?_
  refine SX.seq ?_
  refine SX.region ?_
  refine SXL.move rfl ?_
  refine SXL.move rfl ?_
  refine SXL.len is_22 rfl ?_
  refine SXL.lss rfl rfl ?_
  refine SXL.nil ?_
  refine thenQ.normal ?_
  refine SX.condP rfl (fun c17 => ?_) (fun c17 => ?_)
  · refine SX.skip ?_
    refine thenQ.normal ?_
    refine SX.seq ?_
    refine SX.block ?_
    refine SX.seq ?_
    obtain ⟨b, o, ha, hm⟩ := h.get (foRows_get (i := k) (by omega))
    refine SX.draw 8 (by kernel_rfl) (by kernel_rfl) {} ?_
    refine SXA.take 0 8 rfl (by kernel_rfl) rfl ?_
    refine SXL.move rfl ?_
    refine SXL.move rfl ?_
    refine SXL.move rfl ?_
    refine SXL.indexR el_22 rfl rfl ha (by omega) ?_
    refine SXL.loadN sh_70 rfl (hm _) rfl ?_
    refine SXL.loadNo 1 sh_70 rfl rfl rfl ?_
    refine SXL.call1V (.int .i64 (cmpV (u.founts.getD k default).sp.weeks (u.founts.getD j default).sp.weeks)) fn_86 rfl rfl (fun w hI => weeks1_any (u.founts.getD k default) (u.founts.getD j default) (fa k) (fa j) w) ?_
    refine SXL.lss rfl rfl ?_
    refine SXL.nil ⟨rfl, rfl, rfl, ?_⟩
    refine SXA.done (by kernel_rfl) ?_
    refine SXL.nil ?_
    refine thenQ.normal ?_
    refine SX.condP rfl (fun c27 => ?_) (fun c27 => ?_)
    · refine SX.region ?_
      refine SXL.move rfl ?_
      refine SXL.move rfl ?_
      refine SXL.indexR el_22 rfl rfl ha (by omega) ?_
      refine SXL.loadN sh_70 rfl (hm _) rfl ?_
      refine SXL.store 1 sz_70 rfl rfl rfl rfl rfl rfl ?_
      refine SXL.nil ?_
      refine blockQ.normal ?_
      refine thenQ.normal ?_
      refine SX.region ?_
      refine SXL.move rfl ?_
      refine SXL.add rfl rfl (by omega) ?_
      refine SXL.assign rfl ?_
      refine SXL.nil ?_
      refine thenQ.normal ?_
      refine ⟨(k + 1, _), MeetsW.mkP _ ⟨rfl, trivial⟩ ⟨rfl, rfl, rfl, rfl, trivial⟩ rfl, ⟨by omega, by omega, by
        first
        | exact (show k = amin (wkF u) k by rw [amin_at _ hk1, ← hj, if_pos (cmpV_neg.1 c27)])
        | exact (show j = amin (wkF u) k by rw [amin_at _ hk1, ← hj, if_neg (fun h2 => c27 (cmpV_neg.2 h2))])⟩, (show u.founts.length - (k + 1) < u.founts.length - k by omega)⟩
    · refine SX.skip ?_
      refine blockQ.normal ?_
      refine thenQ.normal ?_
      refine SX.region ?_
      refine SXL.move rfl ?_
      refine SXL.add rfl rfl (by omega) ?_
      refine SXL.assign rfl ?_
      refine SXL.nil ?_
      refine thenQ.normal ?_
      refine ⟨(k + 1, _), MeetsW.mkP _ ⟨rfl, trivial⟩ ⟨rfl, rfl, rfl, rfl, trivial⟩ rfl, ⟨by omega, by omega, by
        first
        | exact (show k = amin (wkF u) k by rw [amin_at _ hk1, ← hj, if_pos (cmpV_neg.1 c27)])
        | exact (show j = amin (wkF u) k by rw [amin_at _ hk1, ← hj, if_neg (fun h2 => c27 (cmpV_neg.2 h2))])⟩, (show u.founts.length - (k + 1) < u.founts.length - k by omega)⟩
  · refine SX.exit ?_
    refine thenQ.exit ?_
    refine thenQ.exit ?_
    refine blockQ.exit ?_
    refine thenQ.normal ?_
    refine SX.seq ?_
    obtain rfl : k = u.founts.length := by omega
    subst hj
    refine SX.region ?_
    refine SXL.loadNo 1 sh_70 rfl rfl rfl ?_
    refine SXL.store 0 sz_70 rfl rfl rfl rfl rfl rfl ?_
    refine SXL.nil ?_
    refine thenQ.normal ?_
    refine SX.ret ?_
    refine retQ.dead [] rfl ?_
    refine retQ.one (ResAt.cellNo 0 sh_70 rfl rfl rfl) ?_
    rfl
theorem firstFounts (u : Su) (fo : Option Addr) (fc : Nat) (fa : Nat → FA) (hl : 0 < u.founts.length) (hl2 : u.founts.length ≤ 1000) (w : World) (h : RowsAt w fo 10 (foRows u fa)) :
    CallsR Tryd.prog 85 [.slice fo u.founts.length fc, .func (.func 86) ⟨[]⟩ ⟨[]⟩] w (fun v _ => v = .agg ⟨foC (u.founts.getD (amin (wkF u) (u.founts.length - 1)) default) (fa (amin (wkF u) (u.founts.length - 1)))⟩) := by
  refine CallsR.of_SX (n := 8) (rs := [.cell 4 70]) Tryd.func85 rfl rfl rfl rfl ?_
  show SX _ _ _ ⟨[(0, .slice fo u.founts.length fc), (1, .func (.func 86) ⟨[]⟩ ⟨[]⟩)], [], []⟩
  refine SX.seq ?_
  refine SX.region ?_
  refine SXL.alloc zp_70 ?_; intro b0
  refine SXL.nil ?_
  refine thenQ.normal ?_
  refine SX.seq ?_
  refine SX.region ?_
  refine SXL.move rfl ?_
  refine SXL.move rfl ?_
  refine SXL.call1 (.agg ⟨foC (u.founts.getD (amin (wkF u) (u.founts.length - 1)) default) (fa (amin (wkF u) (u.founts.length - 1)))⟩) fn_100 rfl (fun w hI => minFounts u fo fc fa hl hl2 _ (h.inv hI)) ?_
  refine SXL.store 0 sz_70 rfl rfl rfl rfl rfl rfl ?_
  refine SXL.nil ?_
  refine thenQ.normal ?_
  refine SX.ret ?_
  refine retQ.dead [] rfl ?_
  refine retQ.one (ResAt.cellNo 0 sh_70 rfl rfl rfl) ?_
  rfl
theorem tweeks_any (u : Su) (fo so : Option Addr) (fc sc : Nat) (fa : Nat → FA) (sa : Nat → DA) (hv : SuP u) (w : World) (hs : SuAt w u fo so fa sa) :
    CallsR Tryd.prog 39 [.agg ⟨[.slice fo u.founts.length fc, .slice so u.streets.length sc]⟩] w (fun v _ => v = .int .i64 (long u)) := by
  have hz := hv.1.1
  refine CallsR.of_SX (n := 10) (rs := [.tmp 2]) Tryd.func39 rfl rfl rfl rfl ?_
  show SX _ _ _ ⟨[(0, .agg ⟨[.slice fo u.founts.length fc, .slice so u.streets.length sc]⟩)], [], []⟩
  refine SX.seq ?_
  refine SX.region ?_
  refine SXL.box rfl rfl ?_; intro b0
  refine SXL.assign rfl ?_
  refine SXL.nil ?_
  refine thenQ.normal ?_
  refine SX.seq ?_
  refine SX.region ?_
  refine SXL.fieldAddr fp_25_0 rfl ?_
  refine SXL.load1o 0 sh_22 rfl rfl rfl ?_
  refine SXL.call1 (.agg ⟨foC (u.founts.getD (amin (wkF u) (u.founts.length - 1)) default) (fa (amin (wkF u) (u.founts.length - 1)))⟩) fn_85 rfl (fun w hI => firstFounts u fo fc fa (by omega) (by omega) _ (hs.founts.inv hI)) ?_
  refine SXL.alloc zp_70 ?_; intro b1
  refine SXL.store 1 sz_70 rfl rfl rfl rfl rfl rfl ?_
  refine SXL.nil ?_
  refine thenQ.normal ?_
  refine SX.seq ?_
  refine SX.region ?_
  refine SXL.fieldAddr fp_70_1 rfl ?_
  refine SXL.fieldAddr fp_68_0 rfl ?_
  refine SXL.load1o 1 sh_3 rfl rfl rfl ?_
  refine SXL.assign rfl ?_
  refine SXL.nil ?_
  refine thenQ.normal ?_
  refine SX.ret ?_
  refine retQ.one (ResAt.tmp rfl) ?_
  exact congrArg (Value.int .i64) hv.first
set_option maxHeartbeats 1000000 in
theorem tdrawn_any (u : Su) (fo so : Option Addr) (fc sc : Nat) (fa : Nat → FA) (sa : Nat → DA) (week : Int) (best : Bool) (hl : LitP u) (hv : SuP u) (hw : Wi week 0 (long u - 1)) (w : World) (hg : Gt w) (hs : SuAt w u fo so fa sa) :
    CallsR Tryd.prog 88 [.agg ⟨[.slice fo u.founts.length fc, .slice so u.streets.length sc]⟩, .int .i64 week, .bool best] w (DrR u fo so fc sc week best (if TrueS u then 0 else 8)) := by
  have hL0 := hl.1
  have hL1 := hl.2.1
  have hL2 := hl.2.2
  have hz := hv.1
  unfold SizeP at hz
  have hWl : (waterL u week best).length ≤ 4 := by rw [waterL_len]; omega
  have hP := pad4_len hWl
  have hNl := needs_len u best
  refine CallsR.of_SX (n := 71) (rs := [.cell 6 78, .tmp 7]) Tryd.func88 rfl rfl rfl rfl ?_
  show SX _ _ _ ⟨[(0, .agg ⟨[.slice fo u.founts.length fc, .slice so u.streets.length sc]⟩), (1, .int .i64 week), (2, .bool best)], [], []⟩
  refine SX.seq ?_
  refine SX.region ?_
  refine SXL.box rfl rfl ?_; intro b0
  refine SXL.alloc zp_78 ?_; intro b1
  refine SXL.assign rfl ?_
  refine SXL.nil ?_
  refine thenQ.normal ?_
  refine SX.seq ?_
  refine SX.region ?_
  refine SXL.loadNo 0 sh_25 rfl rfl rfl ?_
  refine SXL.buildS pl_78 zp_78 rfl rfl ?_
  refine SXL.alloc zp_78 ?_; intro b2
  refine SXL.store 2 sz_78 rfl rfl rfl rfl rfl rfl ?_
  refine SXL.nil ?_
  refine thenQ.normal ?_
  refine SX.seq ?_
  refine SX.seq ?_
  refine SX.region ?_
  refine SXL.fieldAddr fp_25_0 rfl ?_
  refine SXL.load1o 0 sh_22 rfl rfl rfl ?_
  refine SXL.len is_22 rfl ?_
  refine SXL.move rfl ?_
  refine SXL.nil ?_
  refine thenQ.normal ?_
  refine SX.block ?_
  refine SX.loopW (α := Nat × List Int) [1, 2, 3, 6, 7, 8, 19, 20] rfl (fun ⟨k, W⟩ => [(21, .int .i64 ((k : Int)))]) (fun ⟨k, W⟩ => [(b0, .cells ⟨[.slice fo u.founts.length fc, .slice so u.streets.length sc]⟩ 25 (0, 0)), (b1, .cells ⟨[.slice none 0 0, .slice none 0 0, .int .i64 0, .int .i64 0, .int .i64 0, .int .i64 0, .slice none 0 0]⟩ 78 (0, 0)), (b2, .cells ⟨suW u fo so fc sc (W) (.slice none 0 0)⟩ 78 (0, 0))]) (fun ⟨k, W⟩ => []) (fun ⟨k, W⟩ => (k ≤ u.founts.length ∧ ∀ i, i < k → TrueP (u.founts.getD i default).sp) ∧ W = padTo (waterL u week best) k) (fun ⟨k, W⟩ => u.founts.length - k) (0, padTo (waterL u week best) 0) ⟨⟨Nat.zero_le _, fun _ h => absurd h (Nat.not_lt_zero _)⟩, rfl⟩ ⟨rfl, trivial⟩ rfl ?_
  rintro ⟨k, W⟩ ⟨⟨hk, hall⟩, rfl⟩
  refine SX.seq ?_
  refine SX.region ?_
  refine SXL.lss rfl rfl ?_
  refine SXL.nil ?_
  refine thenQ.normal ?_
  refine SX.seq ?_
  refine SX.condP rfl (fun c22 => ?_) (fun c22 => ?_)
  · refine SX.skip ?_
    refine thenQ.normal ?_
    refine SX.seq ?_
    refine SX.block ?_
    refine SX.seq ?_
    obtain ⟨b, o, ha, hm⟩ := hs.fount (i := k) (by omega)
    have hLk := hL1 k (by omega)
    have hT := told_at hv hw (k := k) (by omega)
    have hPk := padTo_len (l := waterL u week best) (k := k) (by rw [waterL_len]; omega) hWl
    refine SX.region ?_
    refine SXL.move rfl ?_
    refine SXL.indexR el_22 rfl rfl ha (by omega) ?_
    refine SXL.loadN sh_70 rfl (hm _) rfl ?_
    refine SXL.alloc zp_70 ?_; intro b3
    refine SXL.assign rfl ?_
    refine SXL.store 3 sz_70 rfl rfl rfl rfl rfl rfl ?_
    refine SXL.nil ?_
    refine thenQ.normal ?_
    refine SX.seq ?_
    refine SX.region ?_
    refine SXL.fieldAddr fp_70_1 rfl ?_
    refine SXL.loadNo 3 sh_68 rfl rfl rfl ?_
    refine SXL.move rfl ?_
    refine SXL.call1 (.tuple ⟨[.agg ⟨[.int .i64 ((givesLo ((u.founts.getD k default).sp) week)), .int .i64 ((givesHi ((u.founts.getD k default).sp) week))]⟩, .int .i64 (toldE ((u.founts.getD k default).sp) week)]⟩) fn_104 rfl (fun w hI => sgives_any ((u.founts.getD k default).sp) (fa k).bo (fa k).ro (fa k).bc (fa k).rc week (by omega) (by omega) w (hg.gl.inv hI) ((hs.springs k (by omega)).inv hI)) ?_
    refine SXL.move rfl ?_
    refine SXL.extract rfl rfl ?_
    refine SXL.extract rfl rfl ?_
    refine SXL.alloc zp_55 ?_; intro b4
    refine SXL.store 4 sz_55 rfl rfl rfl rfl rfl rfl ?_
    refine SXL.assign rfl ?_
    refine SXL.nil ?_
    refine thenQ.normal ?_
    refine SX.seq ?_
    refine SX.seq ?_
    refine SX.region ?_
    refine SXL.move rfl ?_
    refine SXL.neqI rfl rfl ?_
    refine SXL.nil ?_
    refine thenQ.normal ?_
    refine SX.condP rfl (fun c34 => ?_) (fun c34 => ?_)
    · refine SX.seq ?_
      refine SX.region ?_
      refine SXL.loadNo 2 sh_78 rfl rfl (welC_take hPk) ?_
      refine SXL.move rfl ?_
      refine SXL.store 1 sz_78 rfl rfl rfl rfl (welC_len hPk) (putAt_all _ _ (welC_len hPk)) ?_ (welC_one rfl rfl rfl)
      refine SXL.assign rfl ?_
      refine SXL.nil ?_
      refine thenQ.normal ?_
      refine SX.ret ?_
      refine thenQ.ret ?_
      refine blockQ.ret ?_
      refine thenQ.ret ?_
      refine thenQ.ret ?_
      refine blockQ.ret ?_
      refine thenQ.ret ?_
      refine retQ.dead [Sl.nil.ent 3 []] rfl ?_
      refine retQ.two (ResAt.cellNo 1 sh_78 rfl rfl (welC_take hPk)) (ResAt.tmp rfl) ?_
      have ht : ¬TrueP (u.founts.getD k default).sp := fun hx => c34 (by rw [hT, if_pos hx]); rw [if_neg (fun h => ht (h k (by omega)))]; rw [if_neg ht] at hT; exact DrR.errs (welC_len hPk) (welC_one rfl rfl rfl) hT (by omega)
    · refine SX.skip ?_
      refine thenQ.normal ?_
      refine SX.seq ?_
      refine SX.region ?_
      refine SXL.move rfl ?_
      refine SXL.fieldAddr fp_55_0 rfl ?_
      refine SXL.load1o 4 sh_3 rfl rfl rfl ?_
      refine SXL.fieldAddr fp_78_1 rfl ?_
      refine SXL.indexA el_76 rfl rfl (by omega) ?_
      refine SXL.store 2 sz_3 rfl rfl rfl rfl rfl (welC_put (i := k) (by simp) (by omega)) ?_
      refine SXL.nil ?_
      refine thenQ.normal ?_
      refine SX.seq ?_
      refine SX.region ?_
      refine SXL.move rfl ?_
      refine SXL.nil ?_
      refine thenQ.normal ?_
      refine SX.cond rfl (fun c42 => ?_) (fun c42 => ?_)
      · refine SX.region ?_
        refine SXL.move rfl ?_
        refine SXL.fieldAddr fp_55_1 rfl ?_
        refine SXL.load1o 4 sh_3 rfl rfl rfl ?_
        refine SXL.fieldAddr fp_78_1 rfl ?_
        refine SXL.indexA el_76 rfl rfl (by omega) ?_
        refine SXL.store 2 sz_3 rfl rfl rfl rfl rfl (welC_put (i := k) (by simp) (by simp; omega)) ?_
        refine SXL.nil ?_
        refine blockQ.normal ?_
        refine thenQ.normal ?_
        refine SX.region ?_
        refine SXL.add rfl rfl (by omega) ?_
        refine SXL.move rfl ?_
        refine SXL.nil ?_
        refine thenQ.normal ?_
        refine ⟨(k + 1, _), MeetsW.mkP _ ⟨rfl, trivial⟩ ⟨rfl, rfl, rfl, rfl, rfl, rfl, rfl, rfl, trivial⟩ rfl, ⟨?_, ?_⟩, (show u.founts.length - (k + 1) < u.founts.length - k by omega)⟩
        · refine ⟨by omega, fun i hi => ?_⟩
          by_cases e : i = k
          · subst e; exact Classical.byContradiction fun hx => by rw [if_neg hx] at hT; omega
          · exact hall i (by omega)
        · have e3 := padTo_set (l := waterL u week best) (k := k) (by rw [waterL_len]; omega) hWl
          rw [waterL_at (by omega)] at e3
          first
            | (rw [if_pos c42] at e3; rw [List.set_set]; exact e3)
            | (rw [if_neg (by rw [c42]; decide)] at e3; exact e3)
      · refine SX.skip ?_
        refine blockQ.normal ?_
        refine thenQ.normal ?_
        refine SX.region ?_
        refine SXL.add rfl rfl (by omega) ?_
        refine SXL.move rfl ?_
        refine SXL.nil ?_
        refine thenQ.normal ?_
        refine ⟨(k + 1, _), MeetsW.mkP _ ⟨rfl, trivial⟩ ⟨rfl, rfl, rfl, rfl, rfl, rfl, rfl, rfl, trivial⟩ rfl, ⟨?_, ?_⟩, (show u.founts.length - (k + 1) < u.founts.length - k by omega)⟩
        · refine ⟨by omega, fun i hi => ?_⟩
          by_cases e : i = k
          · subst e; exact Classical.byContradiction fun hx => by rw [if_neg hx] at hT; omega
          · exact hall i (by omega)
        · have e3 := padTo_set (l := waterL u week best) (k := k) (by rw [waterL_len]; omega) hWl
          rw [waterL_at (by omega)] at e3
          first
            | (rw [if_pos c42] at e3; rw [List.set_set]; exact e3)
            | (rw [if_neg (by rw [c42]; decide)] at e3; exact e3)
  · refine SX.exit ?_
    refine thenQ.exit ?_
    refine thenQ.exit ?_
    refine blockQ.exit ?_
    refine thenQ.normal ?_
    refine SX.seq ?_
    refine SX.seq ?_
    obtain rfl : k = u.founts.length := by omega
    have hts : TrueS u := fun i hi => hall i hi
    rw [padTo_all_w u week best]
    refine SX.pad (Sl.nil.ent 3 []) rfl ?_
    refine SX.region ?_
    refine SXL.fieldAddr fp_25_1 rfl ?_
    refine SXL.load1o 0 sh_23 rfl rfl rfl ?_
    refine SXL.len is_23 rfl ?_
    refine SXL.move rfl ?_
    refine SXL.nil ?_
    refine thenQ.normal ?_
    refine SX.block ?_
    refine SX.loopW (α := Nat × Sl × Nat × List Value) [2, 6, 7, 8, 50, 51] rfl (fun ⟨k, q, n, c⟩ => [(52, .int .i64 ((k : Int)))]) (fun ⟨k, q, n, c⟩ => [(b0, .cells ⟨[.slice fo u.founts.length fc, .slice so u.streets.length sc]⟩ 25 (0, 0)), (b1, .cells ⟨[.slice none 0 0, .slice none 0 0, .int .i64 0, .int .i64 0, .int .i64 0, .int .i64 0, .slice none 0 0]⟩ 78 (0, 0)), (b2, .cells ⟨suW u fo so fc sc (pad4 (waterL u week best)) (q.val n)⟩ 78 (0, 0)), q.ent 3 c]) (fun ⟨k, q, n, c⟩ => []) (fun ⟨k, q, n, c⟩ => k ≤ u.streets.length ∧ q.Ok n 1 c ∧ n = k ∧ c = ints ((needs u best).take k)) (fun ⟨k, q, n, c⟩ => u.streets.length - k) (0, Sl.nil, 0, []) ⟨Nat.zero_le _, .none _, rfl, rfl⟩ ⟨rfl, trivial⟩ rfl ?_
    rintro ⟨k, q, n, c⟩ ⟨hk, ho, rfl, rfl⟩
    refine SX.seq ?_
    refine SX.region ?_
    refine SXL.lss rfl rfl ?_
    refine SXL.nil ?_
    refine thenQ.normal ?_
    refine SX.seq ?_
    refine SX.condP rfl (fun c53 => ?_) (fun c53 => ?_)
    · refine SX.skip ?_
      refine thenQ.normal ?_
      refine SX.seq ?_
      refine SX.block ?_
      refine SX.seq ?_
      obtain ⟨b, o, ha, hm⟩ := hs.street (i := n) (by omega)
      refine SX.region ?_
      refine SXL.indexR el_23 rfl rfl ha (by omega) ?_
      refine SXL.loadN sh_73 rfl (hm _) rfl ?_
      refine SXL.alloc zp_73 ?_; intro b4
      refine SXL.store 4 sz_73 rfl rfl rfl rfl rfl rfl ?_
      refine SXL.nil ?_
      refine thenQ.normal ?_
      refine SX.seq ?_
      refine SX.region ?_
      refine SXL.fieldAddr fp_73_1 rfl ?_
      refine SXL.fieldAddr fp_55_1 rfl ?_
      refine SXL.load1o 4 sh_3 rfl rfl rfl ?_
      refine SXL.assign rfl ?_
      refine SXL.nil ?_
      refine thenQ.normal ?_
      refine SX.seq ?_
      refine SX.seq ?_
      refine SX.region ?_
      refine SXL.move rfl ?_
      refine SXL.nil ?_
      refine thenQ.normal ?_
      refine SX.cond rfl (fun c59 => ?_) (fun c59 => ?_)
      · refine SX.region ?_
        refine SXL.fieldAddr fp_73_1 rfl ?_
        refine SXL.fieldAddr fp_55_0 rfl ?_
        refine SXL.load1o 4 sh_3 rfl rfl rfl ?_
        refine SXL.assign rfl ?_
        refine SXL.nil ?_
        refine thenQ.normal ?_
        refine SX.region ?_
        refine SXL.fieldAddr fp_78_2 rfl ?_
        refine SXL.load1o 2 sh_33 rfl rfl (welC_need hP) ?_
        refine SXL.move rfl ?_
        refine SXL.buildSlice et_33 zp_3 rfl rfl rfl rfl ?_; intro b5
        refine SXL.append 3 ap_33 rfl rfl ho rfl (.inr ⟨_, _, rfl, Mem.own (i := 5) rfl (takeAt_all _)⟩) rfl rfl ⟨by simp only [maxLen]; omega, by omega⟩ ?_; intro r_67 o_67
        refine SXL.fieldAddr fp_78_2 rfl ?_
        refine SXL.store 2 sz_33 rfl rfl rfl rfl rfl (welC_putN hP) ?_
        refine SXL.nil ?_
        refine blockQ.normal ?_
        refine thenQ.normal ?_
        refine SX.region ?_
        refine SXL.add rfl rfl (by omega) ?_
        refine SXL.move rfl ?_
        refine SXL.nil ?_
        refine thenQ.normal ?_
        refine ⟨(n + 1, _, _, _), MeetsW.mkP _ ⟨rfl, trivial⟩ ⟨rfl, rfl, rfl, rfl, rfl, rfl, trivial⟩ rfl, ⟨by omega, o_67, rfl, by rw [take_snocI (show n < (needs u best).length by omega), needs_at (show n < u.streets.length by omega), ints_snoc]; first | (subst c59; rfl) | (rw [if_pos c59]; rfl) | (rw [if_neg (by rw [c59]; decide)]; rfl)⟩, (show u.streets.length - (n + 1) < u.streets.length - n by omega)⟩
      · refine SX.skip ?_
        refine thenQ.normal ?_
        refine SX.region ?_
        refine SXL.fieldAddr fp_78_2 rfl ?_
        refine SXL.load1o 2 sh_33 rfl rfl (welC_need hP) ?_
        refine SXL.move rfl ?_
        refine SXL.buildSlice et_33 zp_3 rfl rfl rfl rfl ?_; intro b5
        refine SXL.append 3 ap_33 rfl rfl ho rfl (.inr ⟨_, _, rfl, Mem.own (i := 5) rfl (takeAt_all _)⟩) rfl rfl ⟨by simp only [maxLen]; omega, by omega⟩ ?_; intro r_67 o_67
        refine SXL.fieldAddr fp_78_2 rfl ?_
        refine SXL.store 2 sz_33 rfl rfl rfl rfl rfl (welC_putN hP) ?_
        refine SXL.nil ?_
        refine blockQ.normal ?_
        refine thenQ.normal ?_
        refine SX.region ?_
        refine SXL.add rfl rfl (by omega) ?_
        refine SXL.move rfl ?_
        refine SXL.nil ?_
        refine thenQ.normal ?_
        refine ⟨(n + 1, _, _, _), MeetsW.mkP _ ⟨rfl, trivial⟩ ⟨rfl, rfl, rfl, rfl, rfl, rfl, trivial⟩ rfl, ⟨by omega, o_67, rfl, by rw [take_snocI (show n < (needs u best).length by omega), needs_at (show n < u.streets.length by omega), ints_snoc]; first | (subst c59; rfl) | (rw [if_pos c59]; rfl) | (rw [if_neg (by rw [c59]; decide)]; rfl)⟩, (show u.streets.length - (n + 1) < u.streets.length - n by omega)⟩
    · refine SX.exit ?_
      refine thenQ.exit ?_
      refine thenQ.exit ?_
      refine blockQ.exit ?_
      refine thenQ.normal ?_
      refine SX.seq ?_
      obtain rfl : n = u.streets.length := by omega
      refine SX.region ?_
      refine SXL.loadNo 2 sh_78 rfl rfl (welC_take hP) ?_
      refine SXL.store 1 sz_78 rfl rfl rfl rfl (welC_len hP) (putAt_all _ _ (welC_len hP)) ?_ (welC_one rfl rfl rfl)
      refine SXL.assign rfl ?_
      refine SXL.nil ?_
      refine thenQ.normal ?_
      refine SX.ret ?_
      refine retQ.sel [3] rfl rfl ?_
      refine retQ.two (ResAt.cellNo 1 sh_78 rfl rfl (welC_take hP)) (ResAt.tmp rfl) ?_
      have hT2 : (needs u best).take u.streets.length = needs u best := List.take_of_length_le (by omega); rw [if_pos hts]; rw [hT2] at ho ⊢; exact ⟨_, q, needs u best, welC_len hP, welC_one rfl rfl rfl, by rw [hNl]; exact ho, rfl, rfl, fun _ => ⟨by rw [hNl], rfl⟩⟩
end Go.Proofs.YtolcicaclflagaaDoor

/- The calculus' rules: sets of numbers kept as maps from numbers to true. Nothing of the program stands here. -/
namespace Go.X
open Go Go.RowKit
/-- A map from numbers to bools that holds true at each of its keys, in the order in which they came. -/
def mkMap (ks : List (Int × Nat)) : List MapEntry := ks.map fun x => { key := .int .i64 x.1, val := .bool true, born := x.2 }
def mkeys (ks : List (Int × Nat)) : List Int := ks.map (·.1)
def mput (ks : List (Int × Nat)) (k : Int) (c : Nat) : List (Int × Nat) := if k ∈ mkeys ks then ks else ks ++ [(k, c)]
def mclk (ks : List (Int × Nat)) (k : Int) (c : Nat) : Nat := if k ∈ mkeys ks then c else c + 1
def mdel (ks : List (Int × Nat)) (k : Int) : List (Int × Nat) := ks.eraseP fun x => x.1 == k
theorem mput_keys {ks : List (Int × Nat)} {k x : Int} {c : Nat} : x ∈ mkeys (mput ks k c) ↔ x = k ∨ x ∈ mkeys ks := by
  unfold mput
  split
  · rename_i h
    exact ⟨.inr, fun hx => hx.elim (fun e => e ▸ h) id⟩
  · simp [mkeys, or_comm]
theorem mput_nodup {ks : List (Int × Nat)} {k : Int} {c : Nat} (h : (mkeys ks).Nodup) : (mkeys (mput ks k c)).Nodup := by
  unfold mput
  split
  · exact h
  · rename_i hn
    simp only [mkeys, List.map_append, List.map_cons, List.map_nil] at h hn ⊢
    rw [List.nodup_append]
    exact ⟨h, by simp, fun a ha b hb => by simp at hb; subst hb; intro e; subst e; exact hn ha⟩
theorem mdel_nodup {ks : List (Int × Nat)} {k : Int} (h : (mkeys ks).Nodup) : (mkeys (mdel ks k)).Nodup := by
  unfold mkeys mdel at *
  exact h.sublist ((List.eraseP_sublist).map _)
theorem mdel_keys {ks : List (Int × Nat)} {k x : Int} (h : (mkeys ks).Nodup) : x ∈ mkeys (mdel ks k) ↔ x ≠ k ∧ x ∈ mkeys ks := by
  induction ks with
  | nil => simp [mkeys, mdel]
  | cons y ks ih =>
    simp only [mkeys, List.map_cons, List.nodup_cons] at h
    have ih := ih h.2
    by_cases hy : y.1 = k
    · have e : mdel (y :: ks) k = ks := by simp [mdel, hy]
      rw [e]
      simp only [mkeys, List.map_cons, List.mem_cons]
      constructor
      · intro hx
        refine ⟨fun e => ?_, .inr hx⟩
        subst e
        rw [hy] at h
        exact h.1 hx
      · rintro ⟨h1, h2 | h2⟩
        · exact absurd (h2.trans hy) h1
        · exact h2
    · have e : mdel (y :: ks) k = y :: mdel ks k := by simp [mdel, hy]
      rw [e]
      simp only [mkeys, List.map_cons, List.mem_cons] at ih ⊢
      rw [ih]
      constructor
      · rintro (h1 | ⟨h1, h2⟩)
        · exact ⟨fun e => hy (h1.symm.trans e), .inl h1⟩
        · exact ⟨h1, .inr h2⟩
      · rintro ⟨h1, h2 | h2⟩
        · exact .inl h2
        · exact .inr ⟨h1, h2⟩
def mfind (ks : List (Int × Nat)) (k : Int) : Option Nat := ks.findIdx? fun x => x.1 == k
theorem mfind_none {ks : List (Int × Nat)} {k : Int} : mfind ks k = none ↔ k ∉ mkeys ks := by
  simp only [mfind, mkeys, List.findIdx?_eq_none_iff, List.mem_map, not_exists, not_and, beq_eq_false_iff_ne, ne_eq]
theorem findNow_mk (k : Int) : ∀ (ks : List (Int × Nat)) (i : Nat), Instr.findNow (.int .i64) (.int .i64 k) (mkMap ks) i = some ((mfind ks k).map fun j => (i + j, .bool true))
  | [], i => rfl
  | y :: ks, i => by
    have ih := findNow_mk k ks (i + 1)
    by_cases hy : y.1 = k
    · simp [mkMap, Instr.findNow, Instr.sameNow, mfind, List.findIdx?_cons, hy]
    · have hy' : ¬k = y.1 := fun e => hy e.symm
      simp only [mkMap, List.map_cons, Instr.findNow, Instr.sameNow, if_true]
      have e1 : (k == y.1) = false := by simpa using hy'
      rw [e1]
      simp only []
      have ih' : Instr.findNow (.int .i64) (.int .i64 k) (ks.map fun x => { key := .int .i64 x.1, val := .bool true, born := x.2 }) (i + 1) = some ((mfind ks k).map fun j => (i + 1 + j, .bool true)) := ih
      rw [ih']
      have e2 : (y.1 == k) = false := by simpa using hy
      simp only [mfind, List.findIdx?_cons, e2]
      cases ks.findIdx? fun x => x.1 == k <;> simp
      omega
/-- A slice against nil. -/
theorem run_eql_slice_nil' {P : Program} {w : World} {T : TypeId} {x y : Operand} (h : isSliceP P T = true) (a : Option Addr) (n c : Nat) :
    (do eqGuard .eql T x y (.slice a n c) (.slice none 0 0); binOp .eql T (.slice a n c) (.slice none 0 0) : Sem Value).run P w = .ok (.bool (decide (a = none))) w := by
  unfold isSliceP at h
  split at h
  · rename_i e hu
    have h1 : (Op.equal T (.slice a n c) (.slice none 0 0)).run P w = .ok a.isNone w := by
      show (Op.equalIn (9999 + 1) T _ _).run P w = _
      unfold Op.equalIn
      cases a <;> simp [run_underlying hu, Result.andThen]
    have e1 : decide (a = none) = a.isNone := by cases a <;> simp
    simp [eqGuard, binOp, h1, Result.andThen, e1]
  · cases h
def mapKB (P : Program) (t : TypeId) : Bool := match P.underlying t with
  | some (.map k e) => (match P.underlying k, P.underlying e with | some (.int .i64), some .bool => true | _, _ => false) && (match (P.info? e).bind (·.zero) with | some (.bool false) => true | _ => false)
  | _ => false
theorem mapKB_spec {P : Program} {t : TypeId} (h : mapKB P t = true) : ∃ k e, P.underlying t = some (.map k e) ∧ P.underlying k = some (.int .i64) ∧ P.underlying e = some .bool ∧ (P.info? e).bind (·.zero) = some (.bool false) := by
  unfold mapKB at h
  split at h
  · rename_i k e hu
    rw [Bool.and_eq_true] at h
    refine ⟨k, e, hu, ?_⟩
    obtain ⟨h1, h2⟩ := h
    split at h1
    · rename_i a b
      split at h2
      · rename_i c
        exact ⟨a, b, c⟩
      · cases h2
    · cases h1
  · cases h
section
variable {P : Program} {w : World}
theorem run_checkKey_i64 {k : TypeId} (hu : P.underlying k = some (.int .i64)) (e : Bool) (v : Value) : (Instr.checkKey e 10000 k v).run P w = .ok () w := by
  show (Instr.checkKey e (9999 + 1) k v).run P w = _
  unfold Instr.checkKey
  simp [run_underlying hu, Result.andThen]
theorem run_findKey_mk {k : TypeId} (hu : P.underlying k = some (.int .i64)) (x : Int) (ks : List (Int × Nat)) : (Instr.findKey k (.int .i64 x) (mkMap ks)).run P w = .ok ((mfind ks x).map fun j => (j, .bool true)) w := by
  simp [Instr.findKey, run_underlying hu, Result.andThen, findNow_mk]
theorem run_zero_bool {e : TypeId} (hz : (P.info? e).bind (·.zero) = some (.bool false)) : (zeroValue e).run P w = .ok (.bool false) w := by
  cases hi : P.info? e with
  | none => simp [hi] at hz
  | some inf =>
    simp only [hi, Option.bind_some] at hz
    simp [zeroValue, typeInfo, hi, hz, Result.andThen]
theorem run_lookup_mk {t : TypeId} (ht : mapKB P t = true) {b c : Nat} {ks : List (Int × Nat)} (hb : w.heap[b]? = some (.map ⟨mkMap ks⟩ c)) (x : Int) : (Instr.lookup t (.map (some b)) (.int .i64 x) false).run P w = .ok (.bool (decide (x ∈ mkeys ks))) w := by
  obtain ⟨k, e, hu, hk, he, hz⟩ := mapKB_spec ht
  simp only [Instr.lookup]
  simp [run_underlying hu, MapKept.run_getObj_map hb, Result.andThen, run_checkKey_i64 hk, run_findKey_mk hk]
  cases hf : mfind ks x with
  | none =>
    have := mfind_none.1 hf
    simp [run_zero_bool hz, this]
  | some j =>
    have : x ∈ mkeys ks := Decidable.byContradiction fun hn => by rw [mfind_none.2 hn] at hf; cases hf
    simp [this]
theorem mkMap_get {ks : List (Int × Nat)} {x : Int} {j : Nat} (h : mfind ks x = some j) : (mkMap ks)[j]? = some { key := .int .i64 x, val := .bool true, born := ((ks[j]?).map (·.2)).getD 0 } := by
  unfold mfind at h
  rw [List.findIdx?_eq_some_iff_getElem] at h
  obtain ⟨hlt, hx, _⟩ := h
  have hx' : ks[j].1 = x := by simpa using hx
  simp [mkMap, hlt, hx']
theorem modify_same {l : List MapEntry} : ∀ {j : Nat} {e : MapEntry} (f : MapEntry → MapEntry), l[j]? = some e → f e = e → l.modify j f = l := by
  induction l with
  | nil => intro j e f h; simp at h
  | cons x l ih =>
    intro j e f h hf
    cases j with
    | zero => simp at h; subst h; simp [hf]
    | succ j => simp [ih f (by simpa using h) hf]
theorem mkMap_snoc (ks : List (Int × Nat)) (x : Int) (c : Nat) : mkMap (ks ++ [(x, c)]) = mkMap ks ++ [{ key := .int .i64 x, val := .bool true, born := c }] := by simp [mkMap]
theorem run_put_mk {t : TypeId} (ht : mapKB P t = true) {b c : Nat} {ks : List (Int × Nat)} (hb : w.heap[b]? = some (.map ⟨mkMap ks⟩ c)) (x : Int) :
    (Instr.mapUpdate t (.map (some b)) (.int .i64 x) (.bool true)).run P w = .ok () { w with heap := w.heap.setIfInBounds b (.map ⟨mkMap (mput ks x c)⟩ (mclk ks x c)) } := by
  obtain ⟨k, e, hu, hk, he, hz⟩ := mapKB_spec ht
  cases hf : mfind ks x with
  | none =>
    have hn := mfind_none.1 hf
    simp [Instr.mapUpdate, run_underlying hu, MapKept.run_getObj_map hb, Result.andThen, run_checkKey_i64 hk, run_findKey_mk hk, hf, MapKept.run_setObj_map _ hb, mput, mclk, hn, mkMap_snoc]
  | some j =>
    have hy : x ∈ mkeys ks := Decidable.byContradiction fun hn => by rw [mfind_none.2 hn] at hf; cases hf
    have hg := mkMap_get hf
    have hstay : (Instr.keyThatStays (.int .i64 x) (.int .i64 x)).run P w = .ok (.int .i64 x) w := by
      simp [Instr.keyThatStays, Instr.sameBits]
    have hm : (mkMap ks).modify j (fun e => { e with key := .int .i64 x, val := .bool true }) = mkMap ks := modify_same _ hg rfl
    simp [Instr.mapUpdate, run_underlying hu, MapKept.run_getObj_map hb, Result.andThen, run_checkKey_i64 hk, run_findKey_mk hk, hf, MapKept.run_setObj_map _ hb, mput, mclk, hy, hg, hstay]
    rw [hm]
theorem map_eraseIdx' {α β : Type} (f : α → β) : ∀ (l : List α) (j : Nat), (l.map f).eraseIdx j = (l.eraseIdx j).map f
  | [], _ => rfl
  | _ :: _, 0 => rfl
  | _ :: l, j + 1 => by simp [map_eraseIdx' f l j]
theorem mdel_at {ks : List (Int × Nat)} {x : Int} {j : Nat} (h : mfind ks x = some j) : (mkMap ks).eraseIdx j = mkMap (mdel ks x) := by
  have h' := h
  unfold mfind at h'
  rw [mdel, List.eraseP_eq_eraseIdx, h']
  simp only [mkMap]
  rw [map_eraseIdx']
theorem run_del_mk {t : TypeId} (ht : mapKB P t = true) {ty : TypeId} {b c : Nat} {ks : List (Int × Nat)} (hb : w.heap[b]? = some (.map ⟨mkMap ks⟩ c)) (x : Int) {ats : Array TypeId} (hat : ats[0]? = some t) :
    (Builtin.delete_ ats ty #[.map (some b), .int .i64 x]).run P w = .ok (.tuple #[]) { w with heap := w.heap.setIfInBounds b (.map ⟨mkMap (mdel ks x)⟩ c) } := by
  obtain ⟨k, e, hu, hk, he, hz⟩ := mapKB_spec ht
  cases hf : mfind ks x with
  | none =>
    have hn : mdel ks x = ks := by
      have := mfind_none.1 hf
      rw [mdel, List.eraseP_of_forall_not]
      intro a ha hb
      simp at hb
      exact this (by simp only [mkeys, List.mem_map]; exact ⟨a, ha, hb⟩)
    simp [Builtin.delete_, hat, run_underlying hu, MapKept.run_getObj_map hb, Result.andThen, run_checkKey_i64 hk, run_findKey_mk hk, hf, MapKept.run_setObj_map _ hb, hn]
  | some j =>
    have hd := mdel_at hf
    simp [Builtin.delete_, hat, run_underlying hu, MapKept.run_getObj_map hb, Result.andThen, run_checkKey_i64 hk, run_findKey_mk hk, hf, MapKept.run_setObj_map _ hb]
    rw [hd]
end
section
variable {C : Cx} {Q : Post} {env : Env} {own : Own} {D : List Deferred} {ops : Array Oper} {rest : List Oper}
variable {d : Nat} {ty : TypeId} {pos : String} {aft : Array Edge} {g : Option (Nat × Bool)} {x y z : Operand} {T : TypeId}
theorem SXL.makeMap (h : ∀ b, SXL C ops rest Q ⟨(d, .map (some b)) :: env, own ++ [(b, .map ⟨mkMap []⟩ 0)], D⟩)
    (hd : Nat.blt d C.n = true := by rfl) (hw : Wanted ops g env = some true := by rfl) (hdr : C.dr = false := by rfl) :
    SXL C ops ({ dst := some d, op := .makeMap T none, type := ty, pos, after := aft, guard := g } :: rest) Q ⟨env, own, D⟩ :=
  SXL.new (f := fun b => .map (some b)) rfl hd hw (fun _ e => by cases e) (fun a w ha hI => by
    simp [execOp, Instr.makeMap, Result.andThen, mkMap]) h hdr
theorem SXL.mapGet (i : Nat) {b c : Nat} {ks : List (Int × Nat)} {k : Int} (hT : mapKB C.P T = true) (hx : ev env x = some (.map (some b))) (hy : ev env y = some (.int .i64 k)) (hi : own[i]? = some (b, .map ⟨mkMap ks⟩ c))
    (h : SXL C ops rest Q ⟨(d, .bool (decide (k ∈ mkeys ks))) :: env, own, D⟩) (hd : Nat.blt d C.n = true := by rfl) (hw : Wanted ops g env = some true := by rfl) :
    SXL C ops ({ dst := some d, op := .lookup T x y false, type := ty, pos, after := aft, guard := g } :: rest) Q ⟨env, own, D⟩ :=
  SXL.val rfl hd hw (fun _ e => by cases e) (fun a w ha hI => by
    simp only [execOp, ha.eval hx, ha.eval hy]
    exact run_val (run_lookup_mk hT (hI.get hi rfl).2 k)) h
theorem Inv.setMap {w0 w : World} {own : Own} (h : Inv w0 own w) {i b c c' : Nat} {es es' : Array MapEntry} (hi : own[i]? = some (b, .map es c)) :
    Inv w0 (own.set i (b, .map es' c')) { w with heap := w.heap.setIfInBounds b (.map es' c') } := by
  have hb := (h.get hi rfl).2
  have hlt := (Array.getElem?_eq_some_iff.1 hb).1
  exact h.set hi rfl (fun k hk => by simp [hk.symm]) (by simp [hlt]) (by simp) rfl rfl rfl
theorem SXL.mapPut (i : Nat) {b c : Nat} {ks : List (Int × Nat)} {k : Int} (hT : mapKB C.P T = true) (hx : ev env x = some (.map (some b))) (hy : ev env y = some (.int .i64 k)) (hz : ev env z = some (.bool true)) (hi : own[i]? = some (b, .map ⟨mkMap ks⟩ c))
    (h : SXL C ops rest Q ⟨env, own.set i (b, .map ⟨mkMap (mput ks k c)⟩ (mclk ks k c)), D⟩) (hw : Wanted ops g env = some true := by rfl) (hdr : C.dr = false := by rfl) :
    SXL C ops ({ dst := none, op := .mapUpdate T x y z, type := ty, pos, after := aft, guard := g } :: rest) Q ⟨env, own, D⟩ :=
  SXL.op hw (fun _ e => by cases e) (hdr := hdr) fun a w hc => by
    have hr := run_put_mk hT (hc.2.2.get hi rfl).2 k
    refine ⟨undef, _, .inr ⟨?_, rfl⟩, ⟨env, own.set i (b, .map ⟨mkMap (mput ks k c)⟩ (mclk ks k c)), D⟩, fun a' ha' hD' => ⟨ha', hD', hc.2.2.setMap hi⟩, h⟩
    simp only [execOp, hc.1.eval hx, hc.1.eval hy, hc.1.eval hz]
    simp [hr, Result.andThen]
theorem SXL.mapDel (i : Nat) {b c : Nat} {ks : List (Int × Nat)} {k : Int} {ats : Array TypeId} (hT : mapKB C.P T = true) (hat : ats[0]? = some T) (hx : ev env x = some (.map (some b))) (hy : ev env y = some (.int .i64 k)) (hi : own[i]? = some (b, .map ⟨mkMap ks⟩ c))
    (h : SXL C ops rest Q ⟨env, own.set i (b, .map ⟨mkMap (mdel ks k)⟩ c), D⟩) (hw : Wanted ops g env = some true := by rfl) (hdr : C.dr = false := by rfl) :
    SXL C ops ({ dst := none, op := .call { callee := .builtin .delete, args := #[x, y], argTypes := ats }, type := ty, pos, after := aft, guard := g } :: rest) Q ⟨env, own, D⟩ :=
  SXL.op hw (fun _ e => by cases e) (hdr := hdr) fun a w hc => by
    have hr := run_del_mk hT (ty := ty) (b := b) (hc.2.2.get hi rfl).2 k hat
    refine ⟨.tuple #[], _, .inl ?_, ⟨env, own.set i (b, .map ⟨mkMap (mdel ks k)⟩ c), D⟩, fun a' ha' hD' => ⟨ha', hD', hc.2.2.setMap hi⟩, h⟩
    rw [run_builtin]
    simp only [List.map_toArray, List.map_cons, List.map_nil, hc.1.eval hx, hc.1.eval hy]
    show (do pure (Next.value (← Builtin.delete_ ats ty #[.map (some b), .int .i64 k])) : Sem Next).run C.P w = _
    simp [hr, Result.andThen]
theorem SXL.eqlS {T' : TypeId} {ao : Option Addr} {n c : Nat} (hT : isSliceP C.P T = true) (hx : ev env x = some (.slice ao n c)) (hy : ev env y = some (.slice none 0 0))
    (h : SXL C ops rest Q ⟨(d, .bool (decide (ao = none))) :: env, own, D⟩) (hd : Nat.blt d C.n = true := by rfl) (hw : Wanted ops g env = some true := by rfl) :
    SXL C ops ({ dst := some d, op := .binOp .eql T x y T', type := ty, pos, after := aft, guard := g } :: rest) Q ⟨env, own, D⟩ :=
  SXL.bin hx hy (r := .bool (decide (ao = none))) (fun _w => run_eql_slice_nil' hT ao n c) hd hw h
end
end Go.X

/- The walks of the package town: what is asked. -/
namespace Go.Proofs.YtolcicaclflagaaDoor
open Go.X Go.S Go.T Go.RowKit
theorem tasked_any (u : Su) (fo so : Option Addr) (fc sc : Nat) (fa : Nat → FA) (sa : Nat → DA) (week : Int) (best : Bool) (p : Prop) [Decidable p] (e : Int) (he : ¬p → e ≠ 0) (hl : LitP u) (w : World) (hg : Gt w) (hs : SuAt w u fo so fa sa) :
    CallsR Tryd.prog 42 [.agg ⟨[.slice fo u.founts.length fc, .slice so u.streets.length sc]⟩, .int .i64 week, .bool best, .bool (decide p), .int .i64 e] w (DrR u fo so fc sc week best (askT u week p e)) := by
  refine CallsR.of_SX (n := 37) (rs := [.cell 10 78, .tmp 11]) Tryd.func42 rfl rfl rfl rfl ?_
  show SX _ _ _ ⟨[(0, .agg ⟨[.slice fo u.founts.length fc, .slice so u.streets.length sc]⟩), (1, .int .i64 week), (2, .bool best), (3, .bool (decide p)), (4, .int .i64 e)], [], []⟩
  refine SX.seq ?_
  refine SX.region ?_
  refine SXL.box rfl rfl ?_; intro b0
  refine SXL.alloc zp_78 ?_; intro b1
  refine SXL.assign rfl ?_
  refine SXL.nil ?_
  refine thenQ.normal ?_
  refine SX.seq ?_
  refine SX.seq ?_
  refine SX.region ?_
  refine SXL.loadNo 0 sh_25 rfl rfl rfl ?_
  refine SXL.call1 (.int .i64 (if SuP u then 0 else 90)) fn_18 rfl (fun w hI => tcheck_any u fo so fc sc fa sa hl w (hg.inv hI) (hs.inv hI)) ?_
  refine SXL.assign rfl ?_
  refine SXL.nil ?_
  refine thenQ.normal ?_
  refine SX.seq ?_
  refine SX.region ?_
  refine SXL.move rfl ?_
  refine SXL.neqI rfl rfl ?_
  refine SXL.nil ?_
  refine thenQ.normal ?_
  refine SX.condP rfl (fun c16 => ?_) (fun c16 => ?_)
  · refine SX.seq ?_
    refine SX.region ?_
    refine SXL.buildS pl_78 zp_78 rfl rfl ?_
    refine SXL.move rfl ?_
    refine SXL.store 1 sz_78 rfl rfl rfl rfl rfl rfl ?_
    refine SXL.assign rfl ?_
    refine SXL.nil ?_
    refine thenQ.normal ?_
    refine SX.ret ?_
    refine thenQ.ret ?_
    refine retQ.dead [Sl.nil.ent 3 []] rfl ?_
    refine retQ.two (ResAt.cellNo 1 sh_78 rfl rfl rfl) (ResAt.tmp rfl) ?_
    have hx : ¬SuP u := fun h => c16 (if_pos h); rw [if_neg hx]; rw [askT, if_pos hx]; exact DrR.errs rfl rfl rfl (by decide)
  · refine SX.skip ?_
    refine thenQ.normal ?_
    refine SX.seq ?_
    refine SX.seq ?_
    have hv : SuP u := Classical.byContradiction (fun hx => c16 (by rw [if_neg hx]; decide))
    have hlo := hv.long
    refine SX.region ?_
    refine SXL.loadNo 0 sh_25 rfl rfl rfl ?_
    refine SXL.call1 (.int .i64 (long u)) fn_39 rfl (fun w hI => tweeks_any u fo so fc sc fa sa (hv) w (hs.inv hI)) ?_
    refine SXL.sub rfl rfl (by omega) ?_
    refine SXL.move rfl ?_
    refine SXL.buildSlice et_33 zp_3 rfl rfl rfl rfl ?_; intro b2
    refine SXL.call1 (.bool (decide (Wi (week) (0) (long u - 1)))) fn_59 rfl (fun w hI => tin1_own hI 2 (week) (0) (long u - 1) rfl) ?_
    refine SXL.not rfl ?_
    refine SXL.nil ?_
    refine thenQ.normal ?_
    refine SX.condP rfl (fun c25 => ?_) (fun c25 => ?_)
    · refine SX.seq ?_
      refine SX.region ?_
      refine SXL.buildS pl_78 zp_78 rfl rfl ?_
      refine SXL.store 1 sz_78 rfl rfl rfl rfl rfl rfl ?_
      refine SXL.assign rfl ?_
      refine SXL.nil ?_
      refine thenQ.normal ?_
      refine SX.ret ?_
      refine thenQ.ret ?_
      refine retQ.dead [Sl.nil.ent 3 []] rfl ?_
      refine retQ.two (ResAt.cellNo 1 sh_78 rfl rfl rfl) (ResAt.tmp rfl) ?_
      rw [askT, if_neg (Classical.not_not.2 hv), if_pos c25]; exact DrR.errs rfl rfl rfl (by decide)
    · refine SX.skip ?_
      refine thenQ.normal ?_
      refine SX.seq ?_
      refine SX.seq ?_
      have hw := Classical.not_not.1 c25
      refine SX.region ?_
      refine SXL.move rfl ?_
      refine SXL.not rfl ?_
      refine SXL.nil ?_
      refine thenQ.normal ?_
      refine SX.condP rfl (fun c28 => ?_) (fun c28 => ?_)
      · refine SX.seq ?_
        refine SX.region ?_
        refine SXL.buildS pl_78 zp_78 rfl rfl ?_
        refine SXL.move rfl ?_
        refine SXL.store 1 sz_78 rfl rfl rfl rfl rfl rfl ?_
        refine SXL.assign rfl ?_
        refine SXL.nil ?_
        refine thenQ.normal ?_
        refine SX.ret ?_
        refine thenQ.ret ?_
        refine retQ.dead [Sl.nil.ent 3 []] rfl ?_
        refine retQ.two (ResAt.cellNo 1 sh_78 rfl rfl rfl) (ResAt.tmp rfl) ?_
        rw [askT, if_neg (Classical.not_not.2 hv), if_neg (Classical.not_not.2 hw), if_pos c28]; exact DrR.errs rfl rfl rfl (he c28)
      · refine SX.skip ?_
        refine thenQ.normal ?_
        refine SX.seq ?_
        have hp := Classical.not_not.1 c28
        refine SX.region ?_
        refine SXL.loadNo 0 sh_25 rfl rfl rfl ?_
        refine SXL.move rfl ?_
        refine SXL.move rfl ?_
        refine SXL.callF (DrR u fo so fc sc week best (if TrueS u then 0 else 8)) fn_88 rfl (fun w hI => tdrawn_any u fo so fc sc fa sa week best hl hv hw w (hg.inv hI) (hs.inv hI)) ?_; rintro _ _ ⟨C, r, N, hC1, hC2, ho, rfl, rfl, hok⟩
        refine SXL.extract rfl rfl ?_
        refine SXL.extract rfl rfl ?_
        refine SXL.store 1 sz_78 rfl rfl rfl rfl hC1 (putAt_all _ _ hC1) ?_ hC2
        refine SXL.assign rfl ?_
        refine SXL.nil ?_
        refine thenQ.normal ?_
        refine SX.ret ?_
        refine retQ.sel [3] rfl rfl ?_
        refine retQ.two (ResAt.cellNo 1 sh_78 rfl rfl (takeAt_full hC1)) (ResAt.tmp rfl) ?_
        rw [askT, if_neg (Classical.not_not.2 hv), if_neg (Classical.not_not.2 hw), if_neg (Classical.not_not.2 hp)]; exact ⟨C, r, N, hC1, hC2, ho, rfl, rfl, hok⟩
theorem cloneInts (l : List Int) (ao : Option Addr) (c : Nat) (hl : l.length ≤ 1000000) (w : World) (h : RowsAt w ao 1 (ones l)) :
    CallsR Tryd.prog 43 [.slice ao l.length c] w (IsI l) := by
  refine CallsR.of_SX (n := 8) (rs := [.tmp 2]) Tryd.func43 rfl rfl rfl rfl ?_
  show SX _ _ _ ⟨[(0, .slice ao l.length c)], [], []⟩
  refine SX.seq ?_
  refine SX.region ?_
  refine SXL.assign rfl ?_
  refine SXL.nil ?_
  refine thenQ.normal ?_
  refine SX.seq ?_
  refine SX.seq ?_
  refine SX.region ?_
  refine SXL.move rfl ?_
  refine SXL.eqlS is_33 rfl rfl ?_
  refine SXL.nil ?_
  refine thenQ.normal ?_
  refine SX.condP rfl (fun c4 => ?_) (fun c4 => ?_)
  · refine SX.seq ?_
    subst c4
    refine SX.region ?_
    refine SXL.assign rfl ?_
    refine SXL.nil ?_
    refine thenQ.normal ?_
    refine SX.ret ?_
    refine thenQ.ret ?_
    refine retQ.dead [Sl.nil.ent 3 []] rfl ?_
    refine retQ.one (ResAt.tmp rfl) ?_
    have hl0 : l = [] := by
      rcases h with h | ⟨b, o, h, _⟩
      · simpa [ones] using h
      · cases h
    subst hl0
    exact ⟨Sl.nil, .none _, rfl, rfl⟩
  · refine SX.skip ?_
    refine thenQ.normal ?_
    refine SX.seq ?_
    refine SX.region ?_
    refine SXL.buildSlice0 et_33 ?_; intro b0
    refine SXL.move rfl ?_
    refine SXL.appendE (some b0) ap_33 rfl rfl (onesSrc h _) (by simp) (ints_isOne _) ⟨by simp only [maxLen]; omega, by omega⟩ ?_; intro r_7 o_7
    refine SXL.assign rfl ?_
    refine SXL.nil ?_
    refine thenQ.normal ?_
    refine SX.ret ?_
    refine retQ.sel [1] rfl rfl ?_
    refine retQ.one (ResAt.tmp rfl) ?_
    exact ⟨r_7, o_7, rfl, rfl⟩
/-- A list of numbers and an error. -/
structure LeR (l : List Int) (e : Int) (v : Value) (own : X.Own) : Prop where
  ex : ∃ r : Sl, r.Ok l.length 1 (ints l) ∧ v = .tuple ⟨[r.val l.length, .int .i64 e]⟩ ∧ own = [r.ent 3 (ints l)]
def watR (u : Su) (week : Int) (best : Bool) : List Int := if askT u week True 0 = 0 then waterL u week best else []
theorem LeR.errs {l : List Int} {e e' : Int} (h : l = []) (he : e' = e) : LeR l e (.tuple ⟨[.slice none 0 0, .int .i64 e']⟩) [Sl.nil.ent 3 []] := by
  subst h he; exact ⟨Sl.nil, .none _, rfl, rfl⟩
theorem cloneN (l : List Int) (ao : Option Addr) (n c : Nat) (hn : l.length = n) (hl : l.length ≤ 1000000) (w : World) (h : RowsAt w ao 1 (ones l)) : CallsR Tryd.prog 43 [.slice ao n c] w (IsI l) := by
  subst hn; exact cloneInts l ao c hl w h
end Go.Proofs.YtolcicaclflagaaDoor

/- The walks of the package town: whether a sharing can be. -/
namespace Go.Proofs.YtolcicaclflagaaDoor
open Go.X Go.S Go.T Go.RowKit
theorem of_any (J L : List Int) (th : Int) (ao lo : Option Addr) (ac lc : Nat) (hJ : J.length ≤ 10) (hJL : ∀ x ∈ J, 0 ≤ x ∧ x < (L.length : Int)) (hLs : Sm L) (w : World) (h1 : RowsAt w ao 1 (ones J)) (h2 : RowsAt w lo 1 (ones L)) :
    CallsR Tryd.prog 68 [.agg ⟨[.slice ao J.length ac, .int .i64 th]⟩, .slice lo L.length lc] w (fun v _ => v = .int .i64 (sumIx J L J.length)) := by
  refine CallsR.of_SX (n := 23) (rs := [.tmp 4]) Tryd.func68 rfl rfl rfl rfl ?_
  show SX _ _ _ ⟨[(0, .agg ⟨[.slice ao J.length ac, .int .i64 th]⟩), (1, .slice lo L.length lc)], [], []⟩
  refine SX.seq ?_
  refine SX.region ?_
  refine SXL.box rfl rfl ?_; intro b0
  refine SXL.assign rfl ?_
  refine SXL.nil ?_
  refine thenQ.normal ?_
  refine SX.seq ?_
  refine SX.region ?_
  refine SXL.assign rfl ?_
  refine SXL.nil ?_
  refine thenQ.normal ?_
  refine SX.seq ?_
  refine SX.seq ?_
  refine SX.region ?_
  refine SXL.fieldAddr fp_109_0 rfl ?_
  refine SXL.load1o 0 sh_33 rfl rfl rfl ?_
  refine SXL.len is_33 rfl ?_
  refine SXL.move rfl ?_
  refine SXL.nil ?_
  refine thenQ.normal ?_
  refine SX.block ?_
  refine SX.loopG (α := Nat) [1, 4, 9, 10] rfl (fun k => [(11, .int .i64 ((k : Int))), (5, .int .i64 ((sumIx J L k)))]) (fun k => []) (fun k => k ≤ J.length) (fun k => J.length - k) 0 (Nat.zero_le _) ⟨rfl, rfl, trivial⟩ rfl ?_
  rintro k hk
  refine SX.seq ?_
  refine SX.region ?_
  refine SXL.lss rfl rfl ?_
  refine SXL.nil ?_
  refine thenQ.normal ?_
  refine SX.seq ?_
  refine SX.condP rfl (fun c12 => ?_) (fun c12 => ?_)
  · refine SX.skip ?_
    refine thenQ.normal ?_
    refine SX.seq ?_
    refine SX.block ?_
    refine SX.seq ?_
    obtain ⟨b, o, ha, hm⟩ := oneI h1 (i := k) (by omega)
    have hx := hJL (J.getD k 0) (by rw [List.getD_eq_getElem?_getD, List.getElem?_eq_getElem (by omega)]; exact List.getElem_mem _)
    obtain ⟨b2, o2, ha2, hm2⟩ := oneI h2 (i := (J.getD k 0).toNat) (by omega)
    have hb1 := sumIx_in (I := J) hLs k
    have hb2 := hLs (J.getD k 0).toNat
    refine SX.region ?_
    refine SXL.indexR el_33 rfl rfl ha (by omega) ?_
    refine SXL.load1 sh_3 rfl (hm _) ?_
    refine SXL.assign rfl ?_
    refine SXL.nil ?_
    refine thenQ.normal ?_
    refine SX.region ?_
    refine SXL.move rfl ?_
    refine SXL.move rfl ?_
    refine SXL.move rfl ?_
    refine SXL.indexR el_33 rfl rfl ha2 (by omega) ?_
    refine SXL.load1 sh_3 rfl (hm2 _) ?_
    refine SXL.add rfl rfl (by omega) ?_
    refine SXL.assign rfl ?_
    refine SXL.nil ?_
    refine blockQ.normal ?_
    refine thenQ.normal ?_
    refine SX.region ?_
    refine SXL.add rfl rfl (by omega) ?_
    refine SXL.move rfl ?_
    refine SXL.nil ?_
    refine thenQ.normal ?_
    refine ⟨k + 1, Meets.mk _ ⟨rfl, rfl, trivial⟩ ⟨rfl, rfl, rfl, rfl, trivial⟩ rfl, (by omega), (by omega)⟩
  · refine SX.exit ?_
    refine thenQ.exit ?_
    refine thenQ.exit ?_
    refine blockQ.exit ?_
    refine thenQ.normal ?_
    refine SX.seq ?_
    obtain rfl : k = J.length := by omega
    refine SX.region ?_
    refine SXL.move rfl ?_
    refine SXL.assign rfl ?_
    refine SXL.nil ?_
    refine thenQ.normal ?_
    refine SX.ret ?_
    refine retQ.one (ResAt.tmp rfl) ?_
    rfl
theorem mk_94 : mapKB Tryd.prog 94 = true := by kernel_rfl
/-- The iterator of the sets. -/
structure ItS (u : Su) (fo so : Option Addr) (fc sc : Nat) (W : List Int) (nv : Value) (v : Value) (own : X.Own) : Prop where
  ex : ∃ b, v = .func (.func 94) ⟨[]⟩ ⟨[.pointer (some ⟨b, 0, none⟩)]⟩ ∧ own = [(b, .cells ⟨suW u fo so fc sc W nv⟩ 78 (0, 0))]
theorem sets_any (u : Su) (fo so : Option Addr) (fc sc : Nat) (W : List Int) (nv : Value) (w : World) :
    CallsR Tryd.prog 67 [.agg ⟨suW u fo so fc sc W nv⟩] w (ItS u fo so fc sc W nv) := by
  refine CallsR.of_SX (n := 4) (rs := [.tmp 2]) Tryd.func67 rfl rfl rfl rfl ?_
  show SX _ _ _ ⟨[(0, .agg ⟨suW u fo so fc sc W nv⟩)], [], []⟩
  refine SX.seq ?_
  refine SX.region ?_
  refine SXL.box rfl rfl ?_; intro b0
  refine SXL.assign rfl ?_
  refine SXL.nil ?_
  refine thenQ.normal ?_
  refine SX.seq ?_
  refine SX.region ?_
  refine SXL.makeFunc rfl rfl ?_
  refine SXL.assign rfl ?_
  refine SXL.nil ?_
  refine thenQ.normal ?_
  refine SX.ret ?_
  refine retQ.one (ResAt.tmp rfl) ?_
  exact ⟨b0, rfl, rfl⟩
set_option maxHeartbeats 4000000 in
theorem can_any (u : Su) (fo so : Option Addr) (fc sc : Nat) (fa : Nat → FA) (sa : Nat → DA) (W : List Int) (no : Option Addr) (nn nc : Nat) (L : List Int) (lo : Option Addr) (lc : Nat) (hz : SizeP u) (hLn : L.length = u.streets.length) (hLs : Sm L) (hW : W.length = 4) (hWs : Sm W) (hl : LitP u) (w : World) (hs : SuAt w u fo so fa sa) (hlo : RowsAt w lo 1 (ones L)) :
    CallsR Tryd.prog 48 [.agg ⟨suW u fo so fc sc W (.slice no nn nc)⟩, .slice lo L.length lc] w (fun v _ => v = .bool (decide (CanP u W L))) := by
  have hL0 := hl.1
  have hL1 := hl.2.1
  have hL2 := hl.2.2
  unfold SizeP at hz
  have hpw : (2 : Nat) ^ u.streets.length ≤ 32 := Nat.le_trans (Nat.pow_le_pow_right (by omega) hz.2) (by decide)
  refine CallsR.of_SX (n := 15) (rs := [.cell 4 4]) Tryd.func48 rfl rfl rfl rfl ?_
  show SX _ _ _ ⟨[(0, .agg ⟨suW u fo so fc sc W (.slice no nn nc)⟩), (1, .slice lo L.length lc)], [], []⟩
  refine SX.seq ?_
  refine SX.region ?_
  refine SXL.box rfl rfl ?_; intro b0
  refine SXL.box rfl rfl ?_; intro b1
  refine SXL.alloc zp_4 ?_; intro b2
  refine SXL.nil ?_
  refine thenQ.normal ?_
  refine SX.seq ?_
  refine SX.seq ?_
  refine SX.region ?_
  refine SXL.loadNo 0 sh_78 rfl rfl (welC_take hW) ?_
  refine SXL.callF (ItS u fo so fc sc W (.slice no nn nc)) fn_67 rfl (fun w hI => sets_any u fo so fc sc W (.slice no nn nc) w) ?_; rintro _ _ ⟨bi, rfl, rfl⟩
  refine SXL.nil ?_
  refine thenQ.normal ?_
  refine SX.block ?_
  refine SX.rangeFuncX (f := 94) (nf := 79) (rs := []) rfl fn_94 Tryd.func94 rfl rfl rfl rfl ?_
  intro fn T r l ob oj hT hob hoj
  refine SX.seq ?_
  refine SX.region ?_
  refine SXL.fieldAddr fp_78_0 rfl ?_
  refine SXL.fieldAddr fp_25_1 rfl ?_
  refine SXL.load1o 3 sh_23 rfl rfl rfl ?_
  refine SXL.len is_23 rfl ?_
  refine SXL.shlN rfl rfl (by omega) ?_
  refine SXL.move rfl ?_
  refine SXL.nil ?_
  refine thenQ.normal ?_
  refine SX.block ?_
  refine SX.loopW (α := Nat × Unit) [0, 1, 16] rfl (fun ⟨b, _⟩ => [(17, .int .i64 ((b : Int)))]) (fun ⟨b, _⟩ => [(b0, .cells ⟨suW u fo so fc sc W (.slice no nn nc)⟩ 78 (0, 0)), (b1, .cells ⟨[.slice lo L.length lc]⟩ 33 (0, 0)), (b2, .cells ⟨[.bool false]⟩ 4 (0, 0)), (bi, .cells ⟨suW u fo so fc sc W (.slice no nn nc)⟩ 78 (0, 0)), (r, .deferred (some [])), (l, ob .ready)]) (fun ⟨b, _⟩ => []) (fun ⟨b, _⟩ => b ≤ 2 ^ u.streets.length ∧ (∀ d, d < b → sumB d L ≤ thr u d W)) (fun ⟨b, _⟩ => 2 ^ u.streets.length - b) (0, ()) ⟨Nat.zero_le _, fun d hd => absurd hd (Nat.not_lt_zero _)⟩ ⟨rfl, trivial⟩ rfl ?_
  rintro ⟨b, _⟩ ⟨hb, hC⟩
  refine SX.seq ?_
  refine SX.region ?_
  refine SXL.lss rfl rfl ?_
  refine SXL.nil ?_
  refine thenQ.normal ?_
  refine SX.seq ?_
  refine SX.condP rfl (fun c18 => ?_) (fun c18 => ?_)
  · refine SX.skip ?_
    refine thenQ.normal ?_
    refine SX.seq ?_
    refine SX.block ?_
    refine SX.seq ?_
    refine SX.region ?_
    refine SXL.move rfl ?_
    refine SXL.assign rfl ?_
    refine SXL.nil ?_
    refine thenQ.normal ?_
    refine SX.seq ?_
    refine SX.region ?_
    refine SXL.alloc zp_109 ?_; intro b6
    refine SXL.nil ?_
    refine thenQ.normal ?_
    refine SX.seq ?_
    refine SX.region ?_
    refine SXL.makeMap ?_; intro b7
    refine SXL.assign rfl ?_
    refine SXL.nil ?_
    refine thenQ.normal ?_
    refine SX.seq ?_
    refine SX.seq ?_
    refine SX.pad (Sl.nil.ent 3 []) rfl ?_
    refine SX.region ?_
    refine SXL.fieldAddr fp_78_0 rfl ?_
    refine SXL.fieldAddr fp_25_1 rfl ?_
    refine SXL.load1o 3 sh_23 rfl rfl rfl ?_
    refine SXL.len is_23 rfl ?_
    refine SXL.move rfl ?_
    refine SXL.nil ?_
    refine thenQ.normal ?_
    refine SX.block ?_
    refine SX.loopW (α := Nat × Sl × Nat × List Value × List (Int × Nat) × Nat) [0, 1, 3, 4, 5, 16, 17, 23, 24] rfl (fun ⟨i, q, n, c, ks, cl⟩ => [(25, .int .i64 ((i : Int)))]) (fun ⟨i, q, n, c, ks, cl⟩ => [(b0, .cells ⟨suW u fo so fc sc W (.slice no nn nc)⟩ 78 (0, 0)), (b1, .cells ⟨[.slice lo L.length lc]⟩ 33 (0, 0)), (b2, .cells ⟨[.bool false]⟩ 4 (0, 0)), (bi, .cells ⟨suW u fo so fc sc W (.slice no nn nc)⟩ 78 (0, 0)), (r, .deferred (some [])), (l, ob .ready), (b6, .cells ⟨[q.val n, .int .i64 (0)]⟩ 109 (0, 0)), (b7, .map ⟨mkMap ks⟩ cl), q.ent 3 c]) (fun ⟨i, q, n, c, ks, cl⟩ => []) (fun ⟨i, q, n, c, ks, cl⟩ => i ≤ u.streets.length ∧ q.Ok n 1 c ∧ c = ints (memb b i) ∧ ∀ id, id ∈ mkeys ks ↔ opnB u b id i) (fun ⟨i, q, n, c, ks, cl⟩ => u.streets.length - i) (0, Sl.nil, 0, [], [], 0) ⟨Nat.zero_le _, .none _, rfl, fun id => by simp [mkeys, opnB]⟩ ⟨rfl, trivial⟩ rfl ?_
    rintro ⟨i, q, n, c, ks, cl⟩ ⟨hi, ho, rfl, hks⟩
    have hn := Ok.n ho
    have hml := memb_len b i
    refine SX.seq ?_
    refine SX.region ?_
    refine SXL.lss rfl rfl ?_
    refine SXL.nil ?_
    refine thenQ.normal ?_
    refine SX.seq ?_
    refine SX.condP rfl (fun c26 => ?_) (fun c26 => ?_)
    · refine SX.skip ?_
      refine thenQ.normal ?_
      refine SX.seq ?_
      refine SX.block ?_
      refine SX.seq ?_
      obtain ⟨bs, os, ha, hm⟩ := hs.street (i := i) (by omega)
      have hLk := hL2 i (by omega)
      have hbi : b / 2 ^ i ≤ b := Nat.div_le_self _ _
      refine SX.region ?_
      refine SXL.move rfl ?_
      refine SXL.indexR el_23 rfl rfl ha (by omega) ?_
      refine SXL.loadN sh_73 rfl (hm _) rfl ?_
      refine SXL.alloc zp_73 ?_; intro b9
      refine SXL.assign rfl ?_
      refine SXL.store 9 sz_73 rfl rfl rfl rfl rfl rfl ?_
      refine SXL.nil ?_
      refine thenQ.normal ?_
      refine SX.seq ?_
      refine SX.seq ?_
      refine SX.region ?_
      refine SXL.move rfl ?_
      refine SXL.move rfl ?_
      refine SXL.shrN rfl rfl (by omega) ?_
      refine SXL.and1 rfl rfl (by omega) ?_
      refine SXL.eqlI rfl rfl ?_
      refine SXL.nil ?_
      refine thenQ.normal ?_
      refine SX.condP rfl (fun c34 => ?_) (fun c34 => ?_)
      · refine SX.exit ?_
        refine thenQ.exit ?_
        refine blockQ.exit ?_
        refine thenQ.normal ?_
        refine SX.region ?_
        refine SXL.add rfl rfl (by omega) ?_
        refine SXL.move rfl ?_
        refine SXL.nil ?_
        refine thenQ.normal ?_
        refine ⟨(i + 1, _, _, _, _, _), MeetsW.mkP _ ⟨rfl, trivial⟩ ⟨rfl, rfl, rfl, rfl, rfl, rfl, rfl, rfl, rfl, trivial⟩ rfl, ?_, (show u.streets.length - (i + 1) < u.streets.length - i by omega)⟩
        refine ⟨by omega, ?_⟩
        first
          | exact ⟨o_39, by rw [memb, if_pos (show hasI b i by unfold hasI; omega), ints_snoc], opens_add hks (show hasI b i by unfold hasI; omega) (fun id => by rw [hks2 id, List.take_of_length_le (by omega)])⟩
          | exact ⟨ho, by rw [memb, if_neg (show ¬hasI b i by unfold hasI; omega)], opens_same hks (show ¬hasI b i by unfold hasI; omega)⟩
      · refine SX.skip ?_
        refine thenQ.normal ?_
        refine SX.seq ?_
        refine SX.region ?_
        refine SXL.fieldAddr fp_109_0 rfl ?_
        refine SXL.load1o 6 sh_33 rfl rfl rfl ?_
        refine SXL.move rfl ?_
        refine SXL.buildSlice et_33 zp_3 rfl rfl rfl rfl ?_; intro b10
        refine SXL.append 8 ap_33 rfl rfl ho rfl (.inr ⟨_, _, rfl, Mem.own (i := 10) rfl (takeAt_all _)⟩) rfl rfl ⟨by simp only [maxLen]; omega, by omega⟩ ?_; intro r_39 o_39
        refine SXL.fieldAddr fp_109_0 rfl ?_
        refine SXL.store 6 sz_33 rfl rfl rfl rfl rfl rfl ?_
        refine SXL.nil ?_
        refine thenQ.normal ?_
        refine SX.seq ?_
        refine SX.region ?_
        refine SXL.fieldAddr fp_73_3 rfl ?_
        refine SXL.load1o 9 sh_33 rfl rfl rfl ?_
        refine SXL.len is_33 rfl ?_
        refine SXL.move rfl ?_
        refine SXL.nil ?_
        refine thenQ.normal ?_
        refine SX.block ?_
        refine SX.loopW (α := Nat × List (Int × Nat) × Nat) [0, 1, 3, 4, 5, 16, 17, 23, 24, 25, 42, 43] rfl (fun ⟨j, ks2, cl2⟩ => [(44, .int .i64 ((j : Int)))]) (fun ⟨j, ks2, cl2⟩ => [(b0, .cells ⟨suW u fo so fc sc W (.slice no nn nc)⟩ 78 (0, 0)), (b1, .cells ⟨[.slice lo L.length lc]⟩ 33 (0, 0)), (b2, .cells ⟨[.bool false]⟩ 4 (0, 0)), (bi, .cells ⟨suW u fo so fc sc W (.slice no nn nc)⟩ 78 (0, 0)), (r, .deferred (some [])), (l, ob .ready), (b6, .cells ⟨[r_39.val (n + 1), .int .i64 (0)]⟩ 109 (0, 0)), (b7, .map ⟨mkMap ks2⟩ cl2), r_39.ent 3 (ints (memb b i) ++ [.int .i64 (i : Int)]), (b9, .cells ⟨srC (u.streets.getD i default) (sa i)⟩ 73 (0, 0)), (b10, .cells ⟨[.int .i64 (i : Int)]⟩ 3 (0, 0))]) (fun ⟨j, ks2, cl2⟩ => []) (fun ⟨j, ks2, cl2⟩ => j ≤ (u.streets.getD i default).draws.length ∧ ∀ id, id ∈ mkeys ks2 ↔ (id ∈ mkeys ks ∨ id ∈ (u.streets.getD i default).draws.take j)) (fun ⟨j, ks2, cl2⟩ => (u.streets.getD i default).draws.length - j) (0, ks, cl) ⟨Nat.zero_le _, fun id => by simp⟩ ⟨rfl, trivial⟩ rfl ?_
        rintro ⟨j, ks2, cl2⟩ ⟨hj, hks2⟩
        refine SX.seq ?_
        refine SX.region ?_
        refine SXL.lss rfl rfl ?_
        refine SXL.nil ?_
        refine thenQ.normal ?_
        refine SX.seq ?_
        refine SX.condP rfl (fun c45 => ?_) (fun c45 => ?_)
        · refine SX.skip ?_
          refine thenQ.normal ?_
          refine SX.seq ?_
          refine SX.block ?_
          refine SX.seq ?_
          obtain ⟨bd, od, had, hmd⟩ := oneI (hs.draws i (by omega)) (i := j) (by omega)
          refine SX.region ?_
          refine SXL.indexR el_33 rfl rfl had (by omega) ?_
          refine SXL.load1 sh_3 rfl (hmd _) ?_
          refine SXL.assign rfl ?_
          refine SXL.nil ?_
          refine thenQ.normal ?_
          refine SX.region ?_
          refine SXL.move rfl ?_
          refine SXL.move rfl ?_
          refine SXL.mapPut 7 mk_94 rfl rfl rfl rfl ?_
          refine SXL.nil ?_
          refine blockQ.normal ?_
          refine thenQ.normal ?_
          refine SX.region ?_
          refine SXL.add rfl rfl (by omega) ?_
          refine SXL.move rfl ?_
          refine SXL.nil ?_
          refine thenQ.normal ?_
          refine ⟨(j + 1, _, _), MeetsW.mkP _ ⟨rfl, trivial⟩ ⟨rfl, rfl, rfl, rfl, rfl, rfl, rfl, rfl, rfl, rfl, rfl, rfl, trivial⟩ rfl, ⟨by omega, fun id => by rw [mput_keys, hks2 id, mem_take_snoc (show j < (u.streets.getD i default).draws.length by omega)]; exact ⟨fun h => h.elim (fun h => .inr (.inr h)) (fun h => h.elim .inl (fun h => .inr (.inl h))), fun h => h.elim (fun h => .inr (.inl h)) (fun h => h.elim (fun h => .inr (.inr h)) .inl)⟩⟩, (show (u.streets.getD i default).draws.length - (j + 1) < (u.streets.getD i default).draws.length - j by omega)⟩
        · refine SX.exit ?_
          refine thenQ.exit ?_
          refine thenQ.exit ?_
          refine blockQ.exit ?_
          refine blockQ.normal ?_
          refine thenQ.normal ?_
          refine SX.region ?_
          refine SXL.add rfl rfl (by omega) ?_
          refine SXL.move rfl ?_
          refine SXL.nil ?_
          refine thenQ.normal ?_
          refine ⟨(i + 1, _, _, _, _, _), MeetsW.mkP _ ⟨rfl, trivial⟩ ⟨rfl, rfl, rfl, rfl, rfl, rfl, rfl, rfl, rfl, trivial⟩ rfl, ?_, (show u.streets.length - (i + 1) < u.streets.length - i by omega)⟩
          refine ⟨by omega, ?_⟩
          first
            | exact ⟨o_39, by rw [memb, if_pos (show hasI b i by unfold hasI; omega), ints_snoc], opens_add hks (show hasI b i by unfold hasI; omega) (fun id => by rw [hks2 id, List.take_of_length_le (by omega)])⟩
            | exact ⟨ho, by rw [memb, if_neg (show ¬hasI b i by unfold hasI; omega)], opens_same hks (show ¬hasI b i by unfold hasI; omega)⟩
    · refine SX.exit ?_
      refine thenQ.exit ?_
      refine thenQ.exit ?_
      refine blockQ.exit ?_
      refine thenQ.normal ?_
      refine SX.seq ?_
      refine SX.seq ?_
      obtain rfl : i = u.streets.length := by omega
      refine SX.region ?_
      refine SXL.fieldAddr fp_78_0 rfl ?_
      refine SXL.fieldAddr fp_25_0 rfl ?_
      refine SXL.load1o 3 sh_22 rfl rfl rfl ?_
      refine SXL.len is_22 rfl ?_
      refine SXL.move rfl ?_
      refine SXL.nil ?_
      refine thenQ.normal ?_
      refine SX.block ?_
      refine SX.loopW (α := Nat × Int) [0, 1, 4, 5, 16, 17, 54, 55] rfl (fun ⟨k, th⟩ => [(56, .int .i64 ((k : Int)))]) (fun ⟨k, th⟩ => [(b0, .cells ⟨suW u fo so fc sc W (.slice no nn nc)⟩ 78 (0, 0)), (b1, .cells ⟨[.slice lo L.length lc]⟩ 33 (0, 0)), (b2, .cells ⟨[.bool false]⟩ 4 (0, 0)), (bi, .cells ⟨suW u fo so fc sc W (.slice no nn nc)⟩ 78 (0, 0)), (r, .deferred (some [])), (l, ob .ready), (b6, .cells ⟨[q.val n, .int .i64 (th)]⟩ 109 (0, 0)), (b7, .map ⟨mkMap ks⟩ cl), q.ent 3 (ints (memb b u.streets.length))]) (fun ⟨k, th⟩ => []) (fun ⟨k, th⟩ => k ≤ u.founts.length ∧ th = thrTo u b W k) (fun ⟨k, th⟩ => u.founts.length - k) (0, 0) ⟨Nat.zero_le _, rfl⟩ ⟨rfl, trivial⟩ rfl ?_
      rintro ⟨k, th⟩ ⟨hk, rfl⟩
      have hth := thrTo_in (u := u) (b := b) hWs k
      have hwk := hWs k
      refine SX.seq ?_
      refine SX.region ?_
      refine SXL.lss rfl rfl ?_
      refine SXL.nil ?_
      refine thenQ.normal ?_
      refine SX.seq ?_
      refine SX.condP rfl (fun c57 => ?_) (fun c57 => ?_)
      · refine SX.skip ?_
        refine thenQ.normal ?_
        refine SX.seq ?_
        refine SX.block ?_
        refine SX.seq ?_
        obtain ⟨bf, of, haf, hmf⟩ := hs.fount (i := k) (by omega)
        refine SX.region ?_
        refine SXL.move rfl ?_
        refine SXL.indexR el_22 rfl rfl haf (by omega) ?_
        refine SXL.loadN sh_70 rfl (hmf _) rfl ?_
        refine SXL.alloc zp_70 ?_; intro b9
        refine SXL.assign rfl ?_
        refine SXL.store 9 sz_70 rfl rfl rfl rfl rfl rfl ?_
        refine SXL.nil ?_
        refine thenQ.normal ?_
        refine SX.seq ?_
        refine SX.region ?_
        refine SXL.move rfl ?_
        refine SXL.fieldAddr fp_70_0 rfl ?_
        refine SXL.load1o 9 sh_3 rfl rfl rfl ?_
        refine SXL.mapGet 7 mk_94 rfl rfl rfl ?_
        refine SXL.nil ?_
        refine thenQ.normal ?_
        refine SX.condP rfl (fun c64 => ?_) (fun c64 => ?_)
        · refine SX.draw 8 (by kernel_rfl) (by kernel_rfl) {} ?_
          refine SXA.take 0 8 rfl (by kernel_rfl) rfl ?_
          refine SXL.fieldAddr fp_109_1 rfl ?_
          refine SXL.load1o 6 sh_3 rfl rfl rfl ?_
          refine SXL.move rfl ?_
          refine SXL.fieldAddr fp_78_1 rfl ?_
          refine SXL.indexA el_76 rfl rfl (by omega) ?_
          refine SXL.load1o 3 sh_3 rfl rfl (welC_at (i := k) (by simp) (by omega)) ?_
          refine SXL.add rfl rfl (by omega) ?_
          refine SXL.fieldAddr fp_109_1 rfl ?_
          refine SXL.nil ⟨rfl, rfl, rfl, ?_⟩
          refine SXA.done (by kernel_rfl) ?_
          refine SXL.store 6 sz_3 rfl rfl rfl rfl rfl rfl ?_
          refine SXL.nil ?_
          refine blockQ.normal ?_
          refine thenQ.normal ?_
          refine SX.region ?_
          refine SXL.add rfl rfl (by omega) ?_
          refine SXL.move rfl ?_
          refine SXL.nil ?_
          refine thenQ.normal ?_
          refine ⟨(k + 1, _), MeetsW.mkP _ ⟨rfl, trivial⟩ ⟨rfl, rfl, rfl, rfl, rfl, rfl, rfl, rfl, trivial⟩ rfl, ⟨by omega, ?_⟩, (show u.founts.length - (k + 1) < u.founts.length - k by omega)⟩
          first
            | (rw [thrTo, if_pos ((hks _).1 c64)])
            | (rw [thrTo, if_neg (fun h => c64 ((hks _).2 h))])
        · refine SX.skip ?_
          refine blockQ.normal ?_
          refine thenQ.normal ?_
          refine SX.region ?_
          refine SXL.add rfl rfl (by omega) ?_
          refine SXL.move rfl ?_
          refine SXL.nil ?_
          refine thenQ.normal ?_
          refine ⟨(k + 1, _), MeetsW.mkP _ ⟨rfl, trivial⟩ ⟨rfl, rfl, rfl, rfl, rfl, rfl, rfl, rfl, trivial⟩ rfl, ⟨by omega, ?_⟩, (show u.founts.length - (k + 1) < u.founts.length - k by omega)⟩
          first
            | (rw [thrTo, if_pos ((hks _).1 c64)])
            | (rw [thrTo, if_neg (fun h => c64 ((hks _).2 h))])
      · refine SX.exit ?_
        refine thenQ.exit ?_
        refine thenQ.exit ?_
        refine blockQ.exit ?_
        refine thenQ.normal ?_
        refine SX.seq ?_
        obtain rfl : k = u.founts.length := by omega
        refine SX.region ?_
        refine SXL.move rfl ?_
        refine SXL.loadNo 6 sh_109 rfl rfl rfl ?_
        refine SXL.yieldX hT hob hoj 5 rfl rfl rfl rfl rfl ?_
        have hn := Ok.n ho
        subst hn
        have hsb := sumB_memb (u := u) (b := b) hLn
        refine SX.region ?_
        refine SXL.alloc zp_109 ?_; intro b9
        refine SXL.store 9 sz_109 rfl rfl rfl rfl rfl rfl ?_
        refine SXL.nil ?_
        refine ⟨rfl, ?_⟩
        refine SX.block ?_
        refine SX.seq ?_
        refine SX.draw 6 (by kernel_rfl) (by kernel_rfl) {} ?_
        refine SXA.take 0 6 rfl (by kernel_rfl) rfl ?_
        refine SXL.loadNo 9 sh_109 rfl rfl rfl ?_
        refine SXL.load1o 1 sh_33 rfl rfl rfl ?_
        refine SXL.call1 (.int .i64 (sumIx (memb b u.streets.length) L (memb b u.streets.length).length)) fn_68 rfl (fun w hI => of_any (memb b u.streets.length) L (thrTo u b W u.founts.length) q.addr lo q.cap lc (by have := memb_len b u.streets.length; omega) (fun x hx => by have := memb_in b _ x hx; omega) hLs w (slOnes hI ho (i := 8) rfl) (hlo.inv hI)) ?_
        refine SXL.fieldAddr fp_109_1 rfl ?_
        refine SXL.load1o 9 sh_3 rfl rfl rfl ?_
        refine SXL.gtr rfl rfl ?_
        refine SXL.nil ⟨rfl, rfl, rfl, ?_⟩
        refine SXA.done (by kernel_rfl) ?_
        refine SXL.nil ?_
        refine thenQ.normal ?_
        refine SX.condP rfl (fun c14 => ?_) (fun c14 => ?_)
        · refine SX.seq ?_
          refine SX.region ?_
          refine SXL.store 2 sz_4 rfl rfl rfl rfl rfl rfl ?_
          refine SXL.nil ?_
          refine thenQ.normal ?_
          refine SX.ret ?_
          refine blockQ.ret ?_
          refine ⟨rfl, ?_⟩
          refine SXL.not rfl ?_
          refine SXL.nil ?_
          refine thenQ.normal ?_
          refine SX.condP rfl (fun c77 => ?_) (fun c77 => ?_)
          rotate_left
          · exfalso; exact c77 (fun h => h)
          refine SX.ret ?_
          refine blockQ.ret ?_
          refine thenQ.ret ?_
          refine thenQ.ret ?_
          refine blockQ.ret ?_
          refine retQ.zero ?_
          refine Or.inr ⟨5, rfl, ?_⟩
          refine blockQ.ret ?_
          refine thenQ.ret ?_
          refine retQ.unmark 4 rfl ?_
          refine retQ.one (ResAt.cell1o 2 sh_4 rfl rfl rfl) ?_
          exact congrArg Value.bool (decide_eq_false (by intro h; have h1 := h b (by rw [hLn]; omega); rw [hsb] at c14; unfold thr at h1; omega)).symm
        · refine SX.skip ?_
          refine blockQ.normal ?_
          refine ⟨rfl, ?_⟩
          refine SXL.not rfl ?_
          refine SXL.nil ?_
          refine thenQ.normal ?_
          refine SX.condP rfl (fun c77 => ?_) (fun c77 => ?_)
          · exfalso; exact c77 trivial
          refine SX.skip ?_
          refine blockQ.normal ?_
          refine thenQ.normal ?_
          refine SX.region ?_
          refine SXL.add rfl rfl (by omega) ?_
          refine SXL.move rfl ?_
          refine SXL.nil ?_
          refine thenQ.normal ?_
          refine ⟨(b + 1, ()), MeetsW.mkP _ ⟨rfl, trivial⟩ ⟨rfl, rfl, rfl, trivial⟩ rfl, ⟨by omega, fun d hd => by
            by_cases e : d = b
            · subst e; rw [sumB_memb hLn] at c14; unfold thr; omega
            · exact hC d (by omega)⟩, (show 2 ^ u.streets.length - (b + 1) < 2 ^ u.streets.length - b by omega)⟩
  · refine SX.exit ?_
    refine thenQ.exit ?_
    refine thenQ.exit ?_
    refine blockQ.exit ?_
    refine retQ.zeroN ?_
    refine Or.inl ⟨5, rfl, ?_⟩
    refine blockQ.normal ?_
    refine thenQ.normal ?_
    refine SX.seq ?_
    refine SX.region ?_
    refine SXL.store 2 sz_4 rfl rfl rfl rfl rfl rfl ?_
    refine SXL.nil ?_
    refine thenQ.normal ?_
    refine SX.ret ?_
    refine retQ.unmark 4 rfl ?_
    refine retQ.one (ResAt.cell1o 2 sh_4 rfl rfl rfl) ?_
    exact congrArg Value.bool (decide_eq_true ((canP_iff hLn).2 fun d hd => hC d (by omega))).symm
end Go.Proofs.YtolcicaclflagaaDoor

/- The walks of the package town: what is known, the first week without. -/
namespace Go.Proofs.YtolcicaclflagaaDoor
open Go.X Go.S Go.T Go.RowKit
end Go.Proofs.YtolcicaclflagaaDoor

/- The walks of the package town: the most, leasts, which pint more helps. -/
namespace Go.Proofs.YtolcicaclflagaaDoor
open Go.X Go.S Go.T Go.RowKit
theorem tleasts_any (u : Su) (fo so : Option Addr) (fc sc : Nat) (fa : Nat → FA) (sa : Nat → DA) (hl : LitP u) (w : World) (hs : SuAt w u fo so fa sa) :
    CallsR Tryd.prog 55 [.agg ⟨[.slice fo u.founts.length fc, .slice so u.streets.length sc]⟩] w (IsI (leasts u)) := by
  have hL0 := hl.1
  have hL1 := hl.2.1
  have hL2 := hl.2.2
  refine CallsR.of_SX (n := 20) (rs := [.tmp 2]) Tryd.func55 rfl rfl rfl rfl ?_
  show SX _ _ _ ⟨[(0, .agg ⟨[.slice fo u.founts.length fc, .slice so u.streets.length sc]⟩)], [], []⟩
  refine SX.seq ?_
  refine SX.region ?_
  refine SXL.box rfl rfl ?_; intro b0
  refine SXL.assign rfl ?_
  refine SXL.nil ?_
  refine thenQ.normal ?_
  refine SX.seq ?_
  refine SX.pad (Sl.nil.ent 3 []) rfl ?_
  refine SX.region ?_
  refine SXL.assign rfl ?_
  refine SXL.nil ?_
  refine thenQ.normal ?_
  refine SX.seq ?_
  refine SX.seq ?_
  refine SX.region ?_
  refine SXL.fieldAddr fp_25_1 rfl ?_
  refine SXL.load1o 0 sh_23 rfl rfl rfl ?_
  refine SXL.len is_23 rfl ?_
  refine SXL.move rfl ?_
  refine SXL.nil ?_
  refine thenQ.normal ?_
  refine SX.block ?_
  refine SX.loopW (α := Nat × Sl × Nat × List Value) [2, 7, 8] rfl (fun ⟨k, q, n, c⟩ => [(9, .int .i64 ((k : Int))), (3, q.val n)]) (fun ⟨k, q, n, c⟩ => [(b0, .cells ⟨[.slice fo u.founts.length fc, .slice so u.streets.length sc]⟩ 25 (0, 0)), q.ent 3 c]) (fun ⟨k, q, n, c⟩ => []) (fun ⟨k, q, n, c⟩ => k ≤ u.streets.length ∧ q.Ok n 1 c ∧ n = k ∧ c = ints ((leasts u).take k)) (fun ⟨k, q, n, c⟩ => u.streets.length - k) (0, Sl.nil, 0, []) ⟨Nat.zero_le _, .none _, rfl, rfl⟩ ⟨rfl, rfl, trivial⟩ rfl ?_
  rintro ⟨k, q, n, c⟩ ⟨hk, ho, rfl, rfl⟩
  refine SX.seq ?_
  refine SX.region ?_
  refine SXL.lss rfl rfl ?_
  refine SXL.nil ?_
  refine thenQ.normal ?_
  refine SX.seq ?_
  refine SX.condP rfl (fun c10 => ?_) (fun c10 => ?_)
  · refine SX.skip ?_
    refine thenQ.normal ?_
    refine SX.seq ?_
    refine SX.block ?_
    refine SX.seq ?_
    obtain ⟨b, o, ha, hm⟩ := hs.street (i := n) (by omega)
    refine SX.region ?_
    refine SXL.indexR el_23 rfl rfl ha (by omega) ?_
    refine SXL.loadN sh_73 rfl (hm _) rfl ?_
    refine SXL.alloc zp_73 ?_; intro b2
    refine SXL.store 2 sz_73 rfl rfl rfl rfl rfl rfl ?_
    refine SXL.nil ?_
    refine thenQ.normal ?_
    refine SX.region ?_
    refine SXL.move rfl ?_
    refine SXL.fieldAddr fp_73_2 rfl ?_
    refine SXL.load1o 2 sh_3 rfl rfl rfl ?_
    refine SXL.buildSlice et_33 zp_3 rfl rfl rfl rfl ?_; intro b3
    refine SXL.append 1 ap_33 rfl rfl ho rfl (.inr ⟨_, _, rfl, Mem.own (i := 3) rfl (takeAt_all _)⟩) rfl rfl ⟨by simp only [maxLen]; omega, by omega⟩ ?_; intro r_17 o_17
    refine SXL.assign rfl ?_
    refine SXL.nil ?_
    refine blockQ.normal ?_
    refine thenQ.normal ?_
    refine SX.region ?_
    refine SXL.add rfl rfl (by omega) ?_
    refine SXL.move rfl ?_
    refine SXL.nil ?_
    refine thenQ.normal ?_
    refine ⟨(n + 1, _, _, _), MeetsW.mkP _ ⟨rfl, rfl, trivial⟩ ⟨rfl, rfl, rfl, trivial⟩ rfl, ?_, (show u.streets.length - (n + 1) < u.streets.length - n by omega)⟩
    have e3 := take_snocI (l := leasts u) (k := n) (by rw [leasts_len]; omega)
    rw [leasts_at (by omega)] at e3
    exact ⟨by omega, o_17, rfl, by rw [e3, ints_snoc]; rfl⟩
  · refine SX.exit ?_
    refine thenQ.exit ?_
    refine thenQ.exit ?_
    refine blockQ.exit ?_
    refine thenQ.normal ?_
    refine SX.seq ?_
    refine SX.region ?_
    refine SXL.move rfl ?_
    refine SXL.assign rfl ?_
    refine SXL.nil ?_
    refine thenQ.normal ?_
    refine SX.ret ?_
    refine retQ.sel [1] rfl rfl ?_
    refine retQ.one (ResAt.tmp rfl) ?_
    obtain rfl : n = u.streets.length := by omega
    have e4 : (leasts u).take u.streets.length = leasts u := List.take_of_length_le (by rw [leasts_len]; omega)
    rw [e4] at ho ⊢
    exact ⟨q, by rw [leasts_len]; exact ho, by rw [leasts_len], rfl⟩
end Go.Proofs.YtolcicaclflagaaDoor

/- The streets that prove that there is not enough: lists of ids, the first of them. Nothing of Go stands here. -/
namespace Go.T
open Go.S Go.X
/-- What slices.Compare tells. -/
def scV : List Int → List Int → Int
  | [], [] => 0
  | [], _ :: _ => -1
  | _ :: _, [] => 1
  | a :: l, b :: m => if cmpV a b ≠ 0 then cmpV a b else scV l m
/-- The first of several numbers that is not 0. -/
def orL : List Int → Int
  | [] => 0
  | a :: r => if a ≠ 0 then a else orL r
/-- The first number that differs is less. -/
def lexL : List Int → List Int → Bool
  | a :: l, b :: m => if a = b then lexL l m else decide (a < b)
  | _, _ => false
def BefP (a b : List Int) : Prop := if a.length ≠ b.length then a.length < b.length else lexL a b = true
instance (a b : List Int) : Decidable (BefP a b) := by unfold BefP; infer_instance
def pcV (a b : List Int) : Int := orL [cmpV a.length b.length, scV a b]
/-! ### the ids of a set -/
def idsB (u : Su) (b : Nat) : Nat → List Int
  | 0 => []
  | k + 1 => if hasI b k then idsB u b k ++ [(u.streets.getD k default).id] else idsB u b k
/-- A set that lacks water. -/
def LackP (u : Su) (W L : List Int) (b : Nat) : Prop := thr u b W < sumB b L
instance (u : Su) (W L : List Int) (b : Nat) : Decidable (LackP u W L b) := by unfold LackP; infer_instance
/-- The lists of all of the first k sets that lack water. -/
def lkL (u : Su) (W L : List Int) : Nat → List (List Int)
  | 0 => []
  | k + 1 => if LackP u W L k then lkL u W L k ++ [idsB u k u.streets.length] else lkL u W L k
/-- The first of the first k + 1 lists. -/
def minL (l : List (List Int)) : Nat → List Int
  | 0 => l.getD 0 []
  | k + 1 => if BefP (l.getD (k + 1) []) (minL l k) then l.getD (k + 1) [] else minL l k
/-- The first list of all sets below k, as the reference finds it. -/
def rfO (u : Su) (W L : List Int) : Nat → List Int
  | 0 => []
  | k + 1 => if LackP u W L k ∧ (rfO u W L k = [] ∨ BefP (idsB u k u.streets.length) (rfO u W L k)) then idsB u k u.streets.length else rfO u W L k
/-- What Proof tells. -/
def prO (u : Su) (week : Int) (best : Bool) : List Int := rfO u (waterL u week best) (needs u best) (2 ^ u.streets.length)
def prE (u : Su) (week : Int) (best : Bool) : Int := if askT u week True 0 ≠ 0 then askT u week True 0 else if prO u week best = [] then 6 else 0
def prL (u : Su) (week : Int) (best : Bool) : List Int := if prE u week best = 0 then prO u week best else []
end Go.T

/- Lists of lists of numbers in memory. -/
namespace Go.T
open Go Go.X Go.S Go.RowKit
instance : Inhabited Sl := ⟨Sl.nil⟩
/-- A list of numbers in memory of its own: its slice, its length, its numbers. -/
abbrev Trp := Sl × Nat × List Int
def rowP (x : Trp) : List Value := [x.1.val x.2.1]
def OkTr (tr : List Trp) : Prop := ∀ x ∈ tr, x.1.Ok x.2.1 1 (ints x.2.2)
def TrHas (P : X.Own) (tr : List Trp) : Prop := ∀ x ∈ tr, Own.Has P fun w => RowsAt w x.1.addr 1 (ones x.2.2)
theorem OkTr.nil : OkTr [] := fun _ h => (by cases h)
theorem TrHas.nil (P : X.Own) : TrHas P [] := fun _ h => (by cases h)
structure TrAt (w : World) (ao : Option Addr) (tr : List Trp) : Prop where
  rows : RowsAt w ao 1 (tr.map rowP)
  each : ∀ x ∈ tr, RowsAt w x.1.addr 1 (ones x.2.2)
theorem TrAt.inv {w0 w : World} {own : X.Own} {ao : Option Addr} {tr : List Trp} (h : TrAt w0 ao tr) (hI : Inv w0 own w) : TrAt w ao tr := ⟨h.rows.inv hI, fun x hx => (h.each x hx).inv hI⟩
theorem TrAt.row {w : World} {ao : Option Addr} {tr : List Trp} (h : TrAt w ao tr) {k : Nat} (hk : k < tr.length) : ∃ b o, ao = some ⟨b, o, none⟩ ∧ ∀ own, Mem w own b (o + k * 1) (rowP (tr.getD k default)) :=
  h.rows.get (by simp [List.getD_eq_getElem?_getD, hk])
theorem TrHas.of {P P' : X.Own} {tr : List Trp} (h : TrHas P tr) (hs : Sel P P') : TrHas P' tr := fun x hx => (h x hx).of hs
theorem TrHas.add {P : X.Own} {tr : List Trp} (h : TrHas P tr) {q : Sl} {n : Nat} {l : List Int} (o : q.Ok n 1 (ints l)) : TrHas (P ++ [q.ent 3 (ints l)]) (tr ++ [(q, n, l)]) := by
  intro x hx
  rcases List.mem_append.1 hx with hx | hx
  · exact (h x hx).of (Sel.pre P _)
  · simp at hx; subst hx
    intro w0 w hI
    exact slOnes (hI.weaken (List.sublist_append_right P _)) o (i := 0) rfl
theorem OkTr.add {tr : List Trp} (h : OkTr tr) {q : Sl} {n : Nat} {l : List Int} (o : q.Ok n 1 (ints l)) : OkTr (tr ++ [(q, n, l)]) := by
  intro x hx
  rcases List.mem_append.1 hx with hx | hx
  · exact h x hx
  · simp at hx; subst hx; exact o
theorem Ok.rows1 {q : Sl} {n : Nat} {tr : List Trp} (h : q.Ok n 1 (tr.map rowP).flatten) : n = tr.length := by
  have h1 := h.len
  rw [length_flatten (k := 1) (by intro r hr; obtain ⟨x, _, rfl⟩ := List.mem_map.1 hr; rfl), List.length_map] at h1
  omega
/-- A list of numbers somewhere in new memory, and an error. -/
structure PrR (l : List Int) (e : Int) (v : Value) (own : X.Own) : Prop where
  ex : ∃ ao c, v = .tuple ⟨[.slice ao l.length c, .int .i64 e]⟩ ∧ Own.Has own fun w => RowsAt w ao 1 (ones l)
theorem PrR.errs {l : List Int} {e e' : Int} {own : X.Own} (h : l = []) (he : e' = e) : PrR l e (.tuple ⟨[.slice none 0 0, .int .i64 e']⟩) own := by
  subst h he; exact ⟨none, 0, rfl, fun _ w _ => RowsAt.nil w _ _⟩
end Go.T

/- The calculus' rules: elements of slices of the call's own. Nothing of the program stands here. -/
namespace Go.X
open Go Go.RowKit
section
variable {C : Cx} {Q : Post} {env : Env} {own : Own} {D : List Deferred} {ops : Array Oper} {rest : List Oper}
variable {d : Nat} {ty : TypeId} {pos : String} {aft : Array Edge} {g : Option (Nat × Bool)} {x y : Operand} {T T' : TypeId}
theorem SXL.indexSl (j : Nat) {r : Sl} {n s : Nat} {k : IntKind} {i : Int} {E : TypeId} {cells : List Value} (he : elemP C.P T = some (none, s)) (hx : ev env x = some (r.val n)) (hy : ev env y = some (.int k i)) (hb : 0 ≤ i ∧ i < n)
    (_hi : own[j]? = some (r.ent E cells)) (hok : r.Ok n s cells)
    (h : ∀ b, r.blk = some b → SXL C ops rest Q ⟨(d, .pointer (some ⟨b, 0 + i.toNat * s, none⟩)) :: env, own, D⟩) (hd : Nat.blt d C.n = true := by rfl) (hw : Wanted ops g env = some true := by rfl) :
    SXL C ops ({ dst := some d, op := .indexAddr T x y, type := ty, pos, after := aft, guard := g } :: rest) Q ⟨env, own, D⟩ := by
  obtain ⟨b, hbl⟩ := hok.some (show 0 < n by omega)
  refine SXL.indexR he hx hy (ao := r.addr) (b := b) (off := 0) (by simp [Sl.addr, hbl]) hb (h b hbl) hd hw
theorem SXL.loadSl1 (j : Nat) {r : Sl} {n s off b : Nat} {E : TypeId} {cells : List Value} {v : Value} (hT : shapeT C.P T = some none) (hx : ev env x = some (.pointer (some ⟨b, off, none⟩))) (hbl : r.blk = some b)
    (hi : own[j]? = some (r.ent E cells)) (_hok : r.Ok n s cells) (hv : cells[off]? = some v)
    (h : SXL C ops rest Q ⟨(d, v) :: env, own, D⟩) (hd : Nat.blt d C.n = true := by rfl) (hw : Wanted ops g env = some true := by rfl) :
    SXL C ops ({ dst := some d, op := .load T x, type := ty, pos, after := aft, guard := g } :: rest) Q ⟨env, own, D⟩ := by
  have hm : Mem C.w0 own b off [v] := by
    have hent : r.ent E cells = (b, .cells ⟨cells ++ r.sp⟩ E (0, 0)) := by simp [Sl.ent, hbl]
    rw [hent] at hi
    exact Mem.own (k := 1) hi (takeAt_append (takeAt_one hv))
  exact SXL.load1 hT hx hm h hd hw
end
end Go.X

/- The calculus' rules: a store into a slice of the call's own. Nothing of the program stands here. -/
namespace Go.X
open Go Go.RowKit
theorem Sl.Ok.setI {r : Sl} {n : Nat} {l : List Int} (h : r.Ok n 1 (ints l)) (i : Nat) (x : Int) : r.Ok n 1 (ints (l.set i x)) :=
  ⟨by have := h.len; simpa [ints] using this, h.cap, h.max, h.nil, fun b hb => by have := h.full b hb; simpa [ints] using this⟩
section
variable {C : Cx} {Q : Post} {env : Env} {own : Own} {D : List Deferred} {ops : Array Oper} {rest : List Oper}
variable {d : Nat} {ty : TypeId} {pos : String} {aft : Array Edge} {g : Option (Nat × Bool)} {x y : Operand} {T : TypeId}
theorem SXL.storeI {b off n i : Nat} (j : Nat) {r : Sl} {E : TypeId} {l : List Int} {X : Int} (hT : sizeP C.P T = some 1) (hx : ev env x = some (.pointer (some ⟨b, off, none⟩))) (hy : ev env y = some (.int .i64 X)) (hbl : r.blk = some b)
    (hi : own[j]? = some (r.ent E (ints l))) (_hok : r.Ok n 1 (ints l)) (ho : off = i) (hlt : i < l.length)
    (h : SXL C ops rest Q ⟨env, own.set j (r.ent E (ints (l.set i X))), D⟩) (hw : Wanted ops g env = some true := by rfl) (hdr : C.dr = false := by rfl) :
    SXL C ops ({ dst := none, op := .store T x y, type := ty, pos, after := aft, guard := g } :: rest) Q ⟨env, own, D⟩ := by
  have e : ∀ m : List Int, r.ent E (ints m) = (b, .cells ⟨ints m ++ r.sp⟩ E (0, 0)) := fun m => by simp [Sl.ent, hbl]
  rw [e] at hi h
  subst ho
  refine SXL.store j hT hx hy hi rfl rfl (l' := ints (l.set off X) ++ r.sp) ?_ h (by rfl) (by rfl) hw hdr
  rw [putAt_one _ (by simp [ints]; omega)]
  rw [List.set_append_left _ _ (by simpa [ints] using hlt)]
  simp [ints, List.map_set]
end
end Go.X

/- The walks of the package town: the streets that prove that there is not enough. -/
namespace Go.Proofs.YtolcicaclflagaaDoor
open Go.X Go.S Go.T Go.RowKit
end Go.Proofs.YtolcicaclflagaaDoor

/- The calculus' rules: maps that came in; stores into slices of any cells. Nothing of the program stands here. -/
namespace Go.X
open Go Go.RowKit
theorem Sl.Ok.list {r : Sl} {n : Nat} {m l : List Int} (h : r.Ok n 1 (ints m)) (e : l.length = m.length) : r.Ok n 1 (ints l) :=
  ⟨by have := h.len; simp [ints] at this ⊢; omega, h.cap, h.max, h.nil, fun b hb => by have := h.full b hb; simp [ints] at this ⊢; omega⟩
theorem mdel_len {ks : List (Int × Nat)} {x : Int} (h : x ∈ mkeys ks) : (mdel ks x).length + 1 = ks.length := by
  unfold mkeys at h
  obtain ⟨y, hy, rfl⟩ := List.mem_map.1 h
  unfold mdel
  have h1 := List.length_eraseP_of_mem (p := fun z : Int × Nat => z.1 == y.1) hy (by simp)
  have h2 : 0 < ks.length := List.length_pos_of_mem hy
  omega
section
variable {C : Cx} {Q : Post} {env : Env} {own : Own} {D : List Deferred} {ops : Array Oper} {rest : List Oper}
variable {d : Nat} {ty : TypeId} {pos : String} {aft : Array Edge} {g : Option (Nat × Bool)} {x y : Operand} {T : TypeId}
theorem SXL.mapGetO {b c : Nat} {ks : List (Int × Nat)} {k : Int} (hT : mapKB C.P T = true) (hx : ev env x = some (.map (some b))) (hy : ev env y = some (.int .i64 k)) (hi : C.w0.heap[b]? = some (.map ⟨mkMap ks⟩ c))
    (h : SXL C ops rest Q ⟨(d, .bool (decide (k ∈ mkeys ks))) :: env, own, D⟩) (hd : Nat.blt d C.n = true := by rfl) (hw : Wanted ops g env = some true := by rfl) :
    SXL C ops ({ dst := some d, op := .lookup T x y false, type := ty, pos, after := aft, guard := g } :: rest) Q ⟨env, own, D⟩ :=
  SXL.val rfl hd hw (fun _ e => by cases e) (fun a w ha hI => by
    simp only [execOp, ha.eval hx, ha.eval hy]
    exact run_val (run_lookup_mk hT (by rw [hI.below.block _ (Array.getElem?_eq_some_iff.1 hi).1]; exact hi) k)) h
theorem SXL.storeS {b off n s : Nat} (j : Nat) {r : Sl} {E : TypeId} {l : List Value} {v : Value} (hT : sizeP C.P T = some 1) (hx : ev env x = some (.pointer (some ⟨b, off, none⟩))) (hy : ev env y = some v) (hbl : r.blk = some b)
    (hi : own[j]? = some (r.ent E l)) (_hok : r.Ok n s l) (hv : cellsO v = some [v]) (h1 : isOne v = true) (hlt : off < l.length)
    (h : SXL C ops rest Q ⟨env, own.set j (r.ent E (l.set off v)), D⟩) (hw : Wanted ops g env = some true := by rfl) (hdr : C.dr = false := by rfl) :
    SXL C ops ({ dst := none, op := .store T x y, type := ty, pos, after := aft, guard := g } :: rest) Q ⟨env, own, D⟩ := by
  have e : ∀ m : List Value, r.ent E m = (b, .cells ⟨m ++ r.sp⟩ E (0, 0)) := fun m => by simp [Sl.ent, hbl]
  rw [e] at hi h
  refine SXL.store j hT hx hy hi hv rfl (l' := l.set off v ++ r.sp) ?_ h (by simp [h1]) (by rfl) hw hdr
  rw [putAt_one _ (by simp; omega), List.set_append_left _ _ hlt]
end
end Go.X

/- The calculus' rules: calls that turn blocks of the caller's own; copy; append of zeros; overlaps. Nothing of the program stands here. -/
namespace Go.X
open Go Go.RowKit

section
variable {C : Cx} {Q : Post} {env : Env} {own : Own} {D : List Deferred} {ops : Array Oper} {rest : List Oper}
variable {d : Nat} {ty : TypeId} {pos : String} {aft : Array Edge} {g : Option (Nat × Bool)} {x y : Operand} {T T' : TypeId}
end
/-- Some cells of a row set anew. -/
def putL (l : List Value) (off : Nat) (vs : List Value) : List Value := l.take off ++ vs ++ l.drop (off + vs.length)
section
variable {C : Cx} {Q : Post} {env : Env} {own : Own} {D : List Deferred} {ops : Array Oper} {rest : List Oper}
variable {d : Nat} {ty : TypeId} {pos : String} {aft : Array Edge} {g : Option (Nat × Bool)} {x y : Operand} {T T' : TypeId}
/-- The blocks in other words. -/
theorem SX.own_eq {c : Code} {own' : Own} (e : own = own') (h : SX C c Q ⟨env, own', D⟩) : SX C c Q ⟨env, own, D⟩ := e ▸ h
/-! ### append of zeros that grows -/
def isI64P (P : Program) (t : TypeId) : Bool := match P.underlying t with | some (.int .i64) => true | _ => false
/-! ### overlaps -/
/-! ### to unsigned integers and back -/
end
end Go.X

/- The walks of the package town: the fair sharing. -/
namespace Go.Proofs.YtolcicaclflagaaDoor
open Go.X Go.S Go.T Go.RowKit
theorem can_n (u : Su) (fo so : Option Addr) (fc sc : Nat) (fa : Nat → FA) (sa : Nat → DA) (W : List Int) (no : Option Addr) (nn nc : Nat) (L : List Int) (lo : Option Addr) (ns ln lc : Nat) (hns : u.streets.length = ns) (hln : L.length = ln) (hz : SizeP u) (hLn : L.length = u.streets.length) (hLs : Sm L) (hW : W.length = 4) (hWs : Sm W) (hl : LitP u) (w : World) (hs : SuAt w u fo so fa sa) (hlo : RowsAt w lo 1 (ones L)) :
    CallsR Tryd.prog 48 [.agg ⟨welC (.slice fo u.founts.length fc) (.slice so ns sc) W (.slice no nn nc)⟩, .slice lo ln lc] w (fun v _ => v = .bool (decide (CanP u W L))) := by
  subst hns hln; exact can_any u fo so fc sc fa sa W no nn nc L lo lc hz hLn hLs hW hWs hl w hs hlo
theorem oI_some {o : Option Nat} {a : Nat} (h : (a : Int) = oI o) : o = some a := by
  cases o with
  | none => simp only [oI] at h; omega
  | some b => simp only [oI] at h; congr 1; omega
theorem oI_none {o : Option Nat} {i : Int} (h : i = oI o) (hi : ¬0 ≤ i) : o = none := by
  cases o with
  | none => rfl
  | some b => simp only [oI] at h; omega
theorem fair1_any (l : List Int) (ks : List (Int × Nat)) (cl bl bo bm : Nat) (lo : Option Addr) (ln lc : Nat) (hln : l.length = ln) (hlm : l.length ≤ 100) (w : World) (hl1 : w.cell? ⟨bl, 0, none⟩ = some (.slice lo ln lc)) (hl2 : RowsAt w lo 1 (ones l)) (ho1 : w.cell? ⟨bo, 0, none⟩ = some (.map (some bm))) (hm : w.heap[bm]? = some (.map ⟨mkMap ks⟩ cl)) :
    CallsR Tryd.prog 56 [.pointer (some ⟨bl, 0, none⟩), .pointer (some ⟨bo, 0, none⟩)] w (fun v _ => v = .int .i64 (oI (poorTo (fun j => (j : Int) ∈ mkeys ks) l ln))) := by
  subst hln
  refine CallsR.of_SX (n := 31) (rs := [.tmp 2]) Tryd.func56 rfl rfl rfl rfl ?_
  show SX _ _ _ ⟨[(0, .pointer (some ⟨bl, 0, none⟩)), (1, .pointer (some ⟨bo, 0, none⟩))], [], []⟩
  refine SX.seq ?_
  refine SX.region ?_
  refine SXL.assign rfl ?_
  refine SXL.nil ?_
  refine thenQ.normal ?_
  refine SX.seq ?_
  refine SX.region ?_
  refine SXL.assign rfl ?_
  refine SXL.nil ?_
  refine thenQ.normal ?_
  refine SX.seq ?_
  refine SX.seq ?_
  refine SX.region ?_
  refine SXL.load1 sh_33 rfl (Mem.out1 hl1) ?_
  refine SXL.len is_33 rfl ?_
  refine SXL.move rfl ?_
  refine SXL.nil ?_
  refine thenQ.normal ?_
  refine SX.block ?_
  refine SX.loopG (α := Nat × Int) [0, 1, 2, 6, 7] rfl (fun ⟨k, i⟩ => [(8, .int .i64 ((k : Int))), (3, .int .i64 i)]) (fun ⟨k, i⟩ => []) (fun ⟨k, i⟩ => k ≤ l.length ∧ i = oI (poorTo (fun j => (j : Int) ∈ mkeys ks) l k)) (fun ⟨k, i⟩ => l.length - k) (0, -1) ⟨Nat.zero_le _, rfl⟩ ⟨rfl, rfl, trivial⟩ rfl ?_
  rintro ⟨k, i⟩ ⟨hk, hi⟩
  refine SX.seq ?_
  refine SX.region ?_
  refine SXL.lss rfl rfl ?_
  refine SXL.nil ?_
  refine thenQ.normal ?_
  refine SX.seq ?_
  refine SX.condP rfl (fun c9 => ?_) (fun c9 => ?_)
  · refine SX.skip ?_
    refine thenQ.normal ?_
    refine SX.seq ?_
    refine SX.block ?_
    refine SX.seq ?_
    obtain ⟨b1, o1, ha1, hm1⟩ := oneI hl2 (i := k) (by omega)
    have hoi := oI_lt (p := (fun j => (j : Int) ∈ mkeys ks)) (l := l) (k := k)
    refine SX.region ?_
    refine SXL.move rfl ?_
    refine SXL.indexR el_33 rfl rfl ha1 (by omega) ?_
    refine SXL.load1 sh_3 rfl (hm1 _) ?_
    refine SXL.assign rfl ?_
    refine SXL.assign rfl ?_
    refine SXL.nil ?_
    refine thenQ.normal ?_
    refine SX.seq ?_
    refine SX.region ?_
    refine SXL.load1 sh_94 rfl (Mem.out1 ho1) ?_
    refine SXL.move rfl ?_
    refine SXL.mapGetO mk_94 rfl rfl hm ?_
    refine SXL.move rfl ?_
    apply SXL.andG 10
    case hl => exact rfl
    case hd => exact rfl
    case hg => exact rfl
    case ht =>
      intro c27
      refine SXL.move rfl ?_
      refine SXL.lss rfl rfl ?_
      refine SXL.move rfl ?_
      apply SXL.orG 6
      case hl => exact rfl
      case hd => exact rfl
      case hg => exact rfl
      case ht =>
        intro c26
        refine SXL.pass rfl rfl rfl ?_
        refine SXL.pass rfl rfl rfl ?_
        refine SXL.pass rfl rfl rfl ?_
        refine SXL.pass rfl rfl rfl ?_
        refine SXL.pass rfl rfl rfl ?_
        refine SXL.pass rfl rfl rfl ?_
        exact SXL.nil (segQ.mk (.skip rfl (.skip rfl (.skip rfl (.skip rfl (.skip rfl (.skip rfl (.skip rfl (EnvSub.refl _)))))))) rfl rfl rfl)
      case hf =>
        intro c26
        obtain ⟨b2, o2, ha2, hm2⟩ := oneI hl2 (i := i.toNat) (by omega)
        refine SXL.move rfl ?_
        refine SXL.load1 sh_33 rfl (Mem.out1 hl1) ?_
        refine SXL.move rfl ?_
        refine SXL.indexR el_33 rfl rfl ha2 (by omega) ?_
        refine SXL.load1 sh_3 rfl (hm2 _) ?_
        refine SXL.lss rfl rfl ?_
        exact SXL.nil (segQ.mk (.skip rfl (.skip rfl (.skip rfl (.skip rfl (.skip rfl (.skip rfl (.skip rfl (EnvSub.refl _)))))))) rfl rfl ⟨rfl, rfl⟩)
      exact SXL.nil (segQ.mk (.skip rfl (.skip rfl (.skip rfl (.skip rfl (EnvSub.refl _))))) rfl rfl ⟨rfl, rfl⟩)
    case hf =>
      intro c27
      refine SXL.pass rfl rfl rfl ?_
      refine SXL.pass rfl rfl rfl ?_
      refine SXL.pass rfl rfl rfl ?_
      refine SXL.pass rfl rfl rfl ?_
      refine SXL.pass rfl rfl rfl ?_
      refine SXL.pass rfl rfl rfl ?_
      refine SXL.pass rfl rfl rfl ?_
      refine SXL.pass rfl rfl rfl ?_
      refine SXL.pass rfl rfl rfl ?_
      refine SXL.pass rfl rfl rfl ?_
      exact SXL.nil (segQ.mk (.skip rfl (.skip rfl (.skip rfl (.skip rfl (.skip rfl (.skip rfl (.skip rfl (.skip rfl (.skip rfl (.skip rfl (.skip rfl (EnvSub.refl _)))))))))))) rfl rfl rfl)
    refine SXL.nil ?_
    refine thenQ.normal ?_
    refine SX.condP rfl (fun c27 => ?_) (fun c27 => ?_)
    · refine SX.region ?_
      refine SXL.move rfl ?_
      refine SXL.assign rfl ?_
      refine SXL.nil ?_
      refine blockQ.normal ?_
      refine thenQ.normal ?_
      refine SX.region ?_
      refine SXL.add rfl rfl (by omega) ?_
      refine SXL.move rfl ?_
      refine SXL.nil ?_
      refine thenQ.normal ?_
      refine ⟨(k + 1, _), Meets.mk _ ⟨rfl, rfl, trivial⟩ ⟨rfl, rfl, rfl, rfl, rfl, trivial⟩ rfl, ⟨by omega, ?_⟩, (show l.length - (k + 1) < l.length - k by omega)⟩
      rw [poorTo_succ hi]
      first
        | (rw [if_pos c27])
        | (rw [if_neg c27])
    · refine SX.skip ?_
      refine blockQ.normal ?_
      refine thenQ.normal ?_
      refine SX.region ?_
      refine SXL.add rfl rfl (by omega) ?_
      refine SXL.move rfl ?_
      refine SXL.nil ?_
      refine thenQ.normal ?_
      refine ⟨(k + 1, _), Meets.mk _ ⟨rfl, rfl, trivial⟩ ⟨rfl, rfl, rfl, rfl, rfl, trivial⟩ rfl, ⟨by omega, ?_⟩, (show l.length - (k + 1) < l.length - k by omega)⟩
      rw [poorTo_succ hi]
      first
        | (rw [if_pos c27])
        | (rw [if_neg c27])
  · refine SX.exit ?_
    refine thenQ.exit ?_
    refine thenQ.exit ?_
    refine blockQ.exit ?_
    refine thenQ.normal ?_
    refine SX.seq ?_
    obtain rfl : k = l.length := by omega
    refine SX.region ?_
    refine SXL.move rfl ?_
    refine SXL.assign rfl ?_
    refine SXL.nil ?_
    refine thenQ.normal ?_
    refine SX.ret ?_
    refine retQ.one (ResAt.tmp rfl) ?_
    rw [hi]
set_option maxHeartbeats 4000000 in
theorem tfair_any (u : Su) (fo so : Option Addr) (fc sc : Nat) (fa : Nat → FA) (sa : Nat → DA) (week : Int) (best : Bool) (hl : LitP u) (w : World) (hg : Gt w) (hs : SuAt w u fo so fa sa) :
    CallsR Tryd.prog 22 [.agg ⟨[.slice fo u.founts.length fc, .slice so u.streets.length sc]⟩, .int .i64 week, .bool best] w (LeR (faL u week best) (faE u week best)) := by
  refine CallsR.of_SX (n := 83) (rs := [.tmp 6, .tmp 7]) Tryd.func22 rfl rfl rfl rfl ?_
  show SX _ _ _ ⟨[(0, .agg ⟨[.slice fo u.founts.length fc, .slice so u.streets.length sc]⟩), (1, .int .i64 week), (2, .bool best)], [], []⟩
  refine SX.seq ?_
  refine SX.region ?_
  refine SXL.box rfl rfl ?_; intro b0
  refine SXL.assign rfl ?_
  refine SXL.assign rfl ?_
  refine SXL.nil ?_
  refine thenQ.normal ?_
  refine SX.seq ?_
  refine SX.region ?_
  refine SXL.loadNo 0 sh_25 rfl rfl rfl ?_
  refine SXL.move rfl ?_
  refine SXL.move rfl ?_
  refine SXL.callF (DrR u fo so fc sc (week) (best) (askT u (week) (True) (0))) fn_42 rfl (fun w hI => tasked_any u fo so fc sc fa sa (week) (best) (True) (0) (fun h => absurd trivial h) hl w (hg.inv hI) (hs.inv hI)) ?_; rintro _ _ ⟨C, rn, N, hC1, hC2, hrn, rfl, rfl, hok⟩
  refine SXL.move rfl ?_
  refine SXL.extract rfl rfl ?_
  refine SXL.extract rfl rfl ?_
  refine SXL.alloc zp_78 ?_; intro b2
  refine SXL.store 2 sz_78 rfl rfl rfl rfl hC1 (putAt_all _ _ hC1) ?_ hC2
  refine SXL.assign rfl ?_
  refine SXL.nil ?_
  refine thenQ.normal ?_
  refine SX.seq ?_
  refine SX.seq ?_
  refine SX.region ?_
  refine SXL.move rfl ?_
  refine SXL.neqI rfl rfl ?_
  refine SXL.nil ?_
  refine thenQ.normal ?_
  refine SX.condP rfl (fun c24 => ?_) (fun c24 => ?_)
  · refine SX.seq ?_
    refine SX.region ?_
    refine SXL.move rfl ?_
    refine SXL.assign rfl ?_
    refine SXL.assign rfl ?_
    refine SXL.nil ?_
    refine thenQ.normal ?_
    refine SX.ret ?_
    refine thenQ.ret ?_
    refine retQ.dead [Sl.nil.ent 3 []] rfl ?_
    refine retQ.two (ResAt.tmp rfl) (ResAt.tmp rfl) ?_
    obtain ⟨e1, e2⟩ := fair_err (best := best) c24
    exact LeR.errs e2 e1.symm
  · refine SX.skip ?_
    refine thenQ.normal ?_
    refine SX.seq ?_
    have he := Classical.not_not.1 c24
    obtain ⟨hv, hw, hp, ht⟩ := askT_ok (fun h => absurd trivial h) he
    obtain ⟨rfl, rfl⟩ := hok he
    have hz := hv.1
    have hz2 := hz
    unfold SizeP at hz2
    have hWl : ∀ best, (waterL u week best).length ≤ 4 := fun best => by rw [waterL_len]; omega
    have hP : ∀ best, (pad4 (waterL u week best)).length = 4 := fun best => pad4_len (hWl best)
    have hPs : ∀ best, Sm (pad4 (waterL u week best)) := fun best => pad_sm (water_sm hv ht hw best)
    have hz := hv.1
    have hP := hP best
    have hPs := hPs best
    have hn0 := leasts_len u
    refine SX.draw 6 (by kernel_rfl) (by kernel_rfl) {} ?_
    refine SXA.take 0 3 rfl (by kernel_rfl) rfl ?_
    refine SXL.loadNo 2 sh_78 rfl rfl (takeAt_full (k := 7) hC1) ?_
    refine SXL.makeFunc rfl rfl ?_
    refine SXL.loadNo 0 sh_25 rfl rfl rfl ?_
    refine SXL.nil ⟨rfl, rfl, rfl, ?_⟩
    refine SXA.all [3, 4] (by kernel_rfl) rfl ⟨⟨?_, rfl⟩, ⟨?_, rfl⟩, trivial⟩
    · refine (show SXL _ _ [_] _ _ from ?_)
      refine SXL.callF (IsI (leasts u)) fn_55 rfl (fun w hI => tleasts_any u fo so fc sc fa sa hl w (hs.inv hI)) ?_; rintro _ _ ⟨ql, ol, rfl, rfl⟩
      refine SXL.nil (stepQ.mk _ rfl rfl ?_)
      refine SXA.all [4] (by kernel_rfl) rfl ⟨⟨?_, rfl⟩, trivial⟩
      refine (show SXL _ _ [_] _ _ from ?_)
      refine SXL.alloc zp_33 ?_; intro b4
      refine SXL.nil (stepQ.mk _ rfl rfl ?_)
      refine SXA.take 5 1 rfl (by kernel_rfl) rfl ?_
      refine SXL.assign rfl ?_
      refine SXL.nil ⟨rfl, rfl, rfl, ?_⟩
      refine SXA.done (by kernel_rfl) ?_
      refine SXL.store 4 sz_33 rfl rfl rfl rfl rfl rfl ?_
      refine SXL.nil ?_
      refine thenQ.normal ?_
      refine SX.seq ?_
      refine SX.seq ?_
      first
        | (refine SX.own_eq (own' := [(b0, .cells ⟨[.slice fo u.founts.length fc, .slice so u.streets.length sc]⟩ 25 (0, 0)), rn.ent 3 (ints (needs u best)), (b2, .cells ⟨suW u fo so fc sc (pad4 (waterL u week best)) (rn.val (needs u best).length)⟩ 78 (0, 0)), ql.ent 3 (ints (leasts u)), (b4, .cells ⟨[ql.val (leasts u).length]⟩ 33 (0, 0))]) rfl ?_)
        | (obtain ⟨b4, rfl⟩ : ∃ b4, b4 = b3 := ⟨b3, rfl⟩; refine SX.perm (own' := [(b0, .cells ⟨[.slice fo u.founts.length fc, .slice so u.streets.length sc]⟩ 25 (0, 0)), rn.ent 3 (ints (needs u best)), (b2, .cells ⟨suW u fo so fc sc (pad4 (waterL u week best)) (rn.val (needs u best).length)⟩ 78 (0, 0)), ql.ent 3 (ints (leasts u)), (b4, .cells ⟨[ql.val (leasts u).length]⟩ 33 (0, 0))]) (List.Perm.append_left [_, _, _] (List.Perm.swap _ _ [])) ?_)
      refine SX.region ?_
      refine SXL.move rfl ?_
      refine SXL.load1o 4 sh_33 rfl rfl rfl ?_
      refine SXL.call1V (.bool (decide (CanP u (pad4 (waterL u week best)) (leasts u)))) fn_48 rfl rfl (fun w hI => can_any u fo so fc sc fa sa (pad4 (waterL u week best)) _ _ _ (leasts u) ql.addr ql.cap hz (leasts_len u) (leasts_sm hv) hP hPs hl w (hs.inv hI) (slOnes hI ol (i := 3) rfl)) ?_
      refine SXL.not rfl ?_
      refine SXL.nil ?_
      refine thenQ.normal ?_
      refine SX.condP rfl (fun c33 => ?_) (fun c33 => ?_)
      · refine SX.seq ?_
        refine SX.region ?_
        refine SXL.assign rfl ?_
        refine SXL.assign rfl ?_
        refine SXL.nil ?_
        refine thenQ.normal ?_
        refine SX.ret ?_
        refine thenQ.ret ?_
        refine retQ.dead [Sl.nil.ent 3 []] rfl ?_
        refine retQ.two (ResAt.tmp rfl) (ResAt.tmp rfl) ?_
        obtain ⟨e1, e2⟩ := fair_none he (fun h => c33 (canP_pad.2 h))
        exact LeR.errs e2 e1.symm
      · refine SX.skip ?_
        refine thenQ.normal ?_
        refine SX.seq ?_
        have hcan := canP_pad.1 (Classical.not_not.1 c33)
        refine SX.region ?_
        refine SXL.makeMap ?_; intro b5
        refine SXL.alloc zp_94 ?_; intro b6
        refine SXL.store 6 sz_94 rfl rfl rfl rfl rfl rfl ?_
        refine SXL.nil ?_
        refine thenQ.normal ?_
        refine SX.seq ?_
        refine SX.seq ?_
        refine SX.region ?_
        refine SXL.load1o 4 sh_33 rfl rfl rfl ?_
        refine SXL.len is_33 rfl ?_
        refine SXL.move rfl ?_
        refine SXL.nil ?_
        refine thenQ.normal ?_
        refine SX.block ?_
        refine SX.loopW (α := Nat × List (Int × Nat) × Nat) [3, 6, 7, 10, 11, 12, 36] rfl (fun ⟨k, ks, cl⟩ => [(37, .int .i64 ((k : Int)))]) (fun ⟨k, ks, cl⟩ => [(b0, .cells ⟨[.slice fo u.founts.length fc, .slice so u.streets.length sc]⟩ 25 (0, 0)), rn.ent 3 (ints (needs u best)), (b2, .cells ⟨suW u fo so fc sc (pad4 (waterL u week best)) (rn.val (needs u best).length)⟩ 78 (0, 0)), ql.ent 3 (ints (leasts u)), (b4, .cells ⟨[ql.val (leasts u).length]⟩ 33 (0, 0)), (b5, .map ⟨mkMap ks⟩ cl), (b6, .cells ⟨[.map (some b5)]⟩ 94 (0, 0))]) (fun ⟨k, ks, cl⟩ => []) (fun ⟨k, ks, cl⟩ => k ≤ (leasts u).length ∧ (mkeys ks).Nodup ∧ ∀ x, x ∈ mkeys ks ↔ 0 ≤ x ∧ x < (k : Int)) (fun ⟨k, ks, cl⟩ => (leasts u).length - k) (0, [], 0) ⟨Nat.zero_le _, List.nodup_nil, fun x => by simp [mkeys] <;> omega⟩ ⟨rfl, trivial⟩ rfl ?_
        rintro ⟨k, ks, cl⟩ ⟨hk, hnd, hks⟩
        refine SX.seq ?_
        refine SX.region ?_
        refine SXL.lss rfl rfl ?_
        refine SXL.nil ?_
        refine thenQ.normal ?_
        refine SX.seq ?_
        refine SX.condP rfl (fun c38 => ?_) (fun c38 => ?_)
        · refine SX.skip ?_
          refine thenQ.normal ?_
          refine SX.seq ?_
          refine SX.block ?_
          refine SX.seq ?_
          refine SX.region ?_
          refine SXL.move rfl ?_
          refine SXL.assign rfl ?_
          refine SXL.nil ?_
          refine thenQ.normal ?_
          refine SX.region ?_
          refine SXL.load1o 6 sh_94 rfl rfl rfl ?_
          refine SXL.move rfl ?_
          refine SXL.mapPut 5 mk_94 rfl rfl rfl rfl ?_
          refine SXL.nil ?_
          refine blockQ.normal ?_
          refine thenQ.normal ?_
          refine SX.region ?_
          refine SXL.add rfl rfl (by omega) ?_
          refine SXL.move rfl ?_
          refine SXL.nil ?_
          refine thenQ.normal ?_
          refine ⟨(k + 1, _, _), MeetsW.mkP _ ⟨rfl, trivial⟩ ⟨rfl, rfl, rfl, rfl, rfl, rfl, rfl, trivial⟩ rfl, ⟨by omega, mput_nodup hnd, fun x => by rw [mput_keys, hks]; omega⟩, (show (leasts u).length - (k + 1) < (leasts u).length - k by omega)⟩
        · refine SX.exit ?_
          refine thenQ.exit ?_
          refine thenQ.exit ?_
          refine blockQ.exit ?_
          refine thenQ.normal ?_
          refine SX.seq ?_
          obtain rfl : k = (leasts u).length := by omega
          refine SX.region ?_
          refine SXL.makeFunc rfl rfl ?_
          refine SXL.assign rfl ?_
          refine SXL.nil ?_
          refine thenQ.normal ?_
          refine SX.seq ?_
          refine SX.seq ?_
          refine SX.region ?_
          refine SXL.move rfl ?_
          refine SXL.call1V (.int .i64 (oI (poorTo (fun j => (j : Int) ∈ mkeys (ks)) (leasts u) (leasts u).length))) fn_56 rfl rfl (fun w hI => fair1_any (leasts u) (ks) cl b4 b6 b5 ql.addr (leasts u).length ql.cap rfl (by have h7 := leasts_len u; omega) w (ownCell hI (i := 4) rfl rfl) (slOnes hI (ol.list rfl) (i := 3) rfl) (ownCell hI (i := 6) rfl rfl) (hI.get (i := 5) rfl rfl).2) ?_
          refine SXL.assign rfl ?_
          refine SXL.nil ?_
          refine thenQ.normal ?_
          refine SX.block ?_
          refine SX.loopW (α := List Int × List (Int × Nat) × Nat × Int) [3, 6, 7, 10, 11, 12, 14] rfl (fun ⟨l, ks2, cl2, i⟩ => [(15, .int .i64 i)]) (fun ⟨l, ks2, cl2, i⟩ => [(b0, .cells ⟨[.slice fo u.founts.length fc, .slice so u.streets.length sc]⟩ 25 (0, 0)), rn.ent 3 (ints (needs u best)), (b2, .cells ⟨suW u fo so fc sc (pad4 (waterL u week best)) (rn.val (needs u best).length)⟩ 78 (0, 0)), ql.ent 3 (ints (l)), (b4, .cells ⟨[ql.val (leasts u).length]⟩ 33 (0, 0)), (b5, .map ⟨mkMap ks2⟩ cl2), (b6, .cells ⟨[.map (some b5)]⟩ 94 (0, 0))]) (fun ⟨l, ks2, cl2, i⟩ => []) (fun ⟨l, ks2, cl2, i⟩ => InP u l ∧ RchP u (pad4 (waterL u week best)) (leasts u) l ∧ OpP u (pad4 (waterL u week best)) l (mkeys ks2) ∧ (mkeys ks2).Nodup ∧ i = oI (poorTo (fun j => (j : Int) ∈ mkeys ks2) l (leasts u).length)) (fun ⟨l, ks2, cl2, i⟩ => roomTo u l u.streets.length + ks2.length) (leasts u, ks, cl, _) ⟨InP.leasts hv, RchP.refl _ _ _, fun j hj _ => (hks _).2 ⟨by omega, by omega⟩, hnd, rfl⟩ ⟨rfl, trivial⟩ rfl ?_
          rintro ⟨l, ks, cl, i⟩ ⟨hin, hrch, hop, hnd2, hi⟩
          refine SX.seq ?_
          refine SX.seq ?_
          refine SX.region ?_
          refine SXL.move rfl ?_
          refine SXL.geq rfl rfl ?_
          refine SXL.nil ?_
          refine thenQ.normal ?_
          refine SX.condP rfl (fun c47 => ?_) (fun c47 => ?_)
          · refine SX.skip ?_
            refine thenQ.normal ?_
            refine SX.seq ?_
            refine SX.block ?_
            refine SX.seq ?_
            obtain ⟨a, rfl⟩ : ∃ a : Nat, i = a := ⟨i.toNat, by omega⟩
            have hpa := oI_some hi
            have han : a < u.streets.length := by have := poorTo_lt hpa; omega
            have hna := hin.in_ a han
            have hll : l.length = (leasts u).length := by have := hin.len; omega
            have hla : (l.set a (l.getD a 0 + 1)).length = (leasts u).length := by rw [List.length_set]; exact hll
            have hln2 := hla
            have hmem : (a : Int) ∈ mkeys ks := (((poorTo_spec (fun j => (j : Int) ∈ mkeys ks) l (leasts u).length).2 a).1 hpa).2.1
            refine SX.region ?_
            refine SXL.load1o 4 sh_33 rfl rfl rfl ?_
            refine SXL.move rfl ?_
            refine SXL.indexSl 3 el_33 rfl rfl (by omega) rfl (ol.list hll) ?_; intro bx hbx
            refine SXL.loadSl1 3 (v := .int .i64 (l.getD a 0)) sh_3 rfl hbx rfl (ol.list hll) (intsAtX (i := a) (by simp) (by omega)) ?_
            refine SXL.add rfl rfl (by omega) ?_
            refine SXL.indexSl 3 el_33 rfl rfl (by omega) rfl (ol.list hll) ?_; intro bx2 hbx2; obtain rfl : bx = bx2 := Option.some.inj (hbx.symm.trans hbx2)
            refine SXL.storeI 3 (i := a) sz_3 rfl rfl hbx rfl (ol.list hll) (by simp) (by omega) ?_
            refine SXL.nil ?_
            refine thenQ.normal ?_
            refine SX.seq ?_
            obtain ⟨bs, os, has_, hms⟩ := hs.street (i := a) (by omega)
            refine SX.draw 18 (by kernel_rfl) (by kernel_rfl) {} ?_
            refine SXA.take 0 18 rfl (by kernel_rfl) rfl ?_
            refine SXL.load1o 4 sh_33 rfl rfl rfl ?_
            refine SXL.move rfl ?_
            refine SXL.indexSl 3 el_33 rfl rfl (by omega) rfl (ol.list hla) ?_; intro by_ hby_
            refine SXL.loadSl1 3 (v := .int .i64 (l.getD a 0 + 1)) sh_3 rfl hby_ rfl (ol.list hla) ((intsAtX (i := a) (by simp) (by rw [List.length_set]; omega)).trans (congrArg (fun z => some (Value.int .i64 z)) (getD_set_self _ (by omega)))) ?_
            refine SXL.fieldAddr fp_25_1 rfl ?_
            refine SXL.load1o 0 sh_23 rfl rfl rfl ?_
            refine SXL.move rfl ?_
            refine SXL.indexR el_23 rfl rfl has_ (by omega) ?_
            refine SXL.fieldAddr fp_73_1 rfl ?_
            refine SXL.fieldAddr fp_55_1 rfl ?_
            refine SXL.load1 sh_3 rfl ((hms _).sub (j := 2) (k := 1) rfl) ?_
            refine SXL.gtr rfl rfl ?_
            refine SXL.move rfl ?_
            apply SXL.orG 4
            case hl => exact rfl
            case hd => exact rfl
            case hg => exact rfl
            case ht =>
              intro c73
              refine SXL.pass rfl rfl rfl ?_
              refine SXL.pass rfl rfl rfl ?_
              refine SXL.pass rfl rfl rfl ?_
              refine SXL.pass rfl rfl rfl ?_
              exact SXL.nil (segQ.mk (.skip rfl (.skip rfl (.skip rfl (.skip rfl (.skip rfl (EnvSub.refl _)))))) rfl rfl rfl)
            case hf =>
              intro c73
              refine SXL.move rfl ?_
              refine SXL.load1o 4 sh_33 rfl rfl rfl ?_
              refine SXL.call1V (.bool (decide (CanP u (pad4 (waterL u week best)) (l.set a (l.getD a 0 + 1))))) fn_48 rfl rfl (fun w hI => can_n u fo so fc sc fa sa (pad4 (waterL u week best)) _ _ _ (l.set a (l.getD a 0 + 1)) ql.addr _ _ ql.cap rfl hln2 hz (by rw [List.length_set]; exact hin.len) hin.sm1 hP hPs hl w (hs.inv hI) (slOnes hI (ol.list hla) (i := 3) rfl)) ?_
              refine SXL.not rfl ?_
              exact SXL.nil (segQ.mk (.skip rfl (.skip rfl (.skip rfl (.skip rfl (.skip rfl (EnvSub.refl _)))))) rfl rfl ⟨rfl, rfl⟩)
            refine SXL.nil ⟨rfl, rfl, rfl, ?_⟩
            refine SXA.done (by kernel_rfl) ?_
            refine SXL.nil ?_
            refine thenQ.normal ?_
            refine SX.condP rfl (fun c73 => ?_) (fun c73 => ?_)
            · refine SX.seq ?_
              have hup : ¬UpP u (pad4 (waterL u week best)) l a := fun h => c73.elim (fun c => by have := h.1; omega) (fun c => c h.2)
              refine SX.region ?_
              refine SXL.load1o 4 sh_33 rfl rfl rfl ?_
              refine SXL.move rfl ?_
              refine SXL.indexSl 3 el_33 rfl rfl (by omega) rfl (ol.list hla) ?_; intro bz hbz
              refine SXL.loadSl1 3 (v := .int .i64 (l.getD a 0 + 1)) sh_3 rfl hbz rfl (ol.list hla) ((intsAtX (i := a) (by simp) (by rw [List.length_set]; omega)).trans (congrArg (fun z => some (Value.int .i64 z)) (getD_set_self _ (by omega)))) ?_
              refine SXL.sub rfl rfl (by omega) ?_
              refine SXL.indexSl 3 el_33 rfl rfl (by omega) rfl (ol.list hla) ?_; intro bz2 hbz2; obtain rfl : bz = bz2 := Option.some.inj (hbz.symm.trans hbz2)
              refine SXL.storeI 3 (i := a) sz_3 rfl rfl hbz rfl (ol.list hla) (by simp) (by rw [List.length_set]; omega) ?_; rw [set_back (l := l) (a := a) (x := l.getD a 0 + 1) (y := l.getD a 0 + 1 - 1) (by omega)]
              refine SXL.nil ?_
              refine thenQ.normal ?_
              refine SX.region ?_
              refine SXL.load1o 6 sh_94 rfl rfl rfl ?_
              refine SXL.move rfl ?_
              refine SXL.mapDel 5 mk_94 rfl rfl rfl rfl ?_
              refine SXL.nil ?_
              refine blockQ.normal ?_
              refine thenQ.normal ?_
              refine SX.region ?_
              refine SXL.move rfl ?_
              first
                | refine SXL.call1V (.int .i64 (oI (poorTo (fun j => (j : Int) ∈ mkeys (mdel ks (a : Int))) (l) (leasts u).length))) fn_56 rfl rfl (fun w hI => fair1_any (l) (mdel ks (a : Int)) _ b4 b6 b5 ql.addr (leasts u).length ql.cap hll (by have h7 := leasts_len u; omega) w (ownCell hI (i := 4) rfl rfl) (slOnes hI (ol.list hll) (i := 3) rfl) (ownCell hI (i := 6) rfl rfl) (hI.get (i := 5) rfl rfl).2) ?_
                | refine SXL.call1V (.int .i64 (oI (poorTo (fun j => (j : Int) ∈ mkeys (ks)) ((l.set a (l.getD a 0 + 1))) (leasts u).length))) fn_56 rfl rfl (fun w hI => fair1_any ((l.set a (l.getD a 0 + 1))) (ks) _ b4 b6 b5 ql.addr (leasts u).length ql.cap hla (by have h7 := leasts_len u; omega) w (ownCell hI (i := 4) rfl rfl) (slOnes hI (ol.list hla) (i := 3) rfl) (ownCell hI (i := 6) rfl rfl) (hI.get (i := 5) rfl rfl).2) ?_
              refine SXL.assign rfl ?_
              refine SXL.nil ?_
              refine thenQ.normal ?_
              refine ⟨(_, _, _, _), MeetsW.mkP _ ⟨rfl, trivial⟩ ⟨rfl, rfl, rfl, rfl, rfl, rfl, rfl, trivial⟩ rfl, ?_, ?_⟩
              · first
                | exact ⟨hin, hrch, hop.drop hup (fun x => mdel_keys hnd2), mdel_nodup hnd2, rfl⟩
                | (obtain ⟨c1, c2⟩ := not_or.1 c73; exact ⟨hin.up han (by omega), hrch.step (hop.poor (by rw [← hn0]; exact hpa) ⟨by omega, Classical.not_not.1 c2⟩), hop.step hin.len, hnd2, rfl⟩)
              · first
                | (have h1 := mdel_len hmem; show roomTo u l u.streets.length + (mdel ks (a : Int)).length < roomTo u l u.streets.length + ks.length; omega)
                | (obtain ⟨c1, c2⟩ := not_or.1 c73; have h1 := roomTo_set (u := u) (l := l) (a := a) (by omega) (by omega) u.streets.length han; show roomTo u (l.set a (l.getD a 0 + 1)) u.streets.length + ks.length < roomTo u l u.streets.length + ks.length; omega)
            · refine SX.skip ?_
              refine blockQ.normal ?_
              refine thenQ.normal ?_
              refine SX.region ?_
              refine SXL.move rfl ?_
              first
                | refine SXL.call1V (.int .i64 (oI (poorTo (fun j => (j : Int) ∈ mkeys (mdel ks (a : Int))) (l) (leasts u).length))) fn_56 rfl rfl (fun w hI => fair1_any (l) (mdel ks (a : Int)) _ b4 b6 b5 ql.addr (leasts u).length ql.cap hll (by have h7 := leasts_len u; omega) w (ownCell hI (i := 4) rfl rfl) (slOnes hI (ol.list hll) (i := 3) rfl) (ownCell hI (i := 6) rfl rfl) (hI.get (i := 5) rfl rfl).2) ?_
                | refine SXL.call1V (.int .i64 (oI (poorTo (fun j => (j : Int) ∈ mkeys (ks)) ((l.set a (l.getD a 0 + 1))) (leasts u).length))) fn_56 rfl rfl (fun w hI => fair1_any ((l.set a (l.getD a 0 + 1))) (ks) _ b4 b6 b5 ql.addr (leasts u).length ql.cap hla (by have h7 := leasts_len u; omega) w (ownCell hI (i := 4) rfl rfl) (slOnes hI (ol.list hla) (i := 3) rfl) (ownCell hI (i := 6) rfl rfl) (hI.get (i := 5) rfl rfl).2) ?_
              refine SXL.assign rfl ?_
              refine SXL.nil ?_
              refine thenQ.normal ?_
              refine ⟨(_, _, _, _), MeetsW.mkP _ ⟨rfl, trivial⟩ ⟨rfl, rfl, rfl, rfl, rfl, rfl, rfl, trivial⟩ rfl, ?_, ?_⟩
              · first
                | exact ⟨hin, hrch, hop.drop hup (fun x => mdel_keys hnd2), mdel_nodup hnd2, rfl⟩
                | (obtain ⟨c1, c2⟩ := not_or.1 c73; exact ⟨hin.up han (by omega), hrch.step (hop.poor (by rw [← hn0]; exact hpa) ⟨by omega, Classical.not_not.1 c2⟩), hop.step hin.len, hnd2, rfl⟩)
              · first
                | (have h1 := mdel_len hmem; show roomTo u l u.streets.length + (mdel ks (a : Int)).length < roomTo u l u.streets.length + ks.length; omega)
                | (obtain ⟨c1, c2⟩ := not_or.1 c73; have h1 := roomTo_set (u := u) (l := l) (a := a) (by omega) (by omega) u.streets.length han; show roomTo u (l.set a (l.getD a 0 + 1)) u.streets.length + ks.length < roomTo u l u.streets.length + ks.length; omega)
          · refine SX.exit ?_
            refine thenQ.exit ?_
            refine thenQ.exit ?_
            refine blockQ.exit ?_
            refine thenQ.normal ?_
            refine SX.seq ?_
            refine SX.region ?_
            refine SXL.load1o 4 sh_33 rfl rfl rfl ?_
            refine SXL.assign rfl ?_
            refine SXL.assign rfl ?_
            refine SXL.nil ?_
            refine thenQ.normal ?_
            refine SX.ret ?_
            refine retQ.sel [3] rfl rfl ?_
            refine retQ.two (ResAt.tmp rfl) (ResAt.tmp rfl) ?_
            have hno := oI_none hi c47
            rw [hn0] at hno
            obtain ⟨e1, e2⟩ := fair_some he hcan ((hrch _ (.done (hop.none hno))).congr (pad4_at _))
            rw [e1, e2]
            exact ⟨ql, by rw [hin.len, ← hn0]; exact ol.list (by have := hin.len; omega), by rw [hin.len, ← hn0], rfl⟩
    · refine (show SXL _ _ [_] _ _ from ?_)
      refine SXL.alloc zp_33 ?_; intro b3
      refine SXL.nil (stepQ.mk _ rfl rfl ?_)
      refine SXA.all [3] (by kernel_rfl) rfl ⟨⟨?_, rfl⟩, trivial⟩
      refine (show SXL _ _ [_] _ _ from ?_)
      refine SXL.callF (IsI (leasts u)) fn_55 rfl (fun w hI => tleasts_any u fo so fc sc fa sa hl w (hs.inv hI)) ?_; rintro _ _ ⟨ql, ol, rfl, rfl⟩
      refine SXL.nil (stepQ.mk _ rfl rfl ?_)
      refine SXA.take 5 1 rfl (by kernel_rfl) rfl ?_
      refine SXL.assign rfl ?_
      refine SXL.nil ⟨rfl, rfl, rfl, ?_⟩
      refine SXA.done (by kernel_rfl) ?_
      refine SXL.store 3 sz_33 rfl rfl rfl rfl rfl rfl ?_
      refine SXL.nil ?_
      refine thenQ.normal ?_
      refine SX.seq ?_
      refine SX.seq ?_
      first
        | (refine SX.own_eq (own' := [(b0, .cells ⟨[.slice fo u.founts.length fc, .slice so u.streets.length sc]⟩ 25 (0, 0)), rn.ent 3 (ints (needs u best)), (b2, .cells ⟨suW u fo so fc sc (pad4 (waterL u week best)) (rn.val (needs u best).length)⟩ 78 (0, 0)), ql.ent 3 (ints (leasts u)), (b4, .cells ⟨[ql.val (leasts u).length]⟩ 33 (0, 0))]) rfl ?_)
        | (obtain ⟨b4, rfl⟩ : ∃ b4, b4 = b3 := ⟨b3, rfl⟩; refine SX.perm (own' := [(b0, .cells ⟨[.slice fo u.founts.length fc, .slice so u.streets.length sc]⟩ 25 (0, 0)), rn.ent 3 (ints (needs u best)), (b2, .cells ⟨suW u fo so fc sc (pad4 (waterL u week best)) (rn.val (needs u best).length)⟩ 78 (0, 0)), ql.ent 3 (ints (leasts u)), (b4, .cells ⟨[ql.val (leasts u).length]⟩ 33 (0, 0))]) (List.Perm.append_left [_, _, _] (List.Perm.swap _ _ [])) ?_)
      refine SX.region ?_
      refine SXL.move rfl ?_
      refine SXL.load1o 4 sh_33 rfl rfl rfl ?_
      refine SXL.call1V (.bool (decide (CanP u (pad4 (waterL u week best)) (leasts u)))) fn_48 rfl rfl (fun w hI => can_any u fo so fc sc fa sa (pad4 (waterL u week best)) _ _ _ (leasts u) ql.addr ql.cap hz (leasts_len u) (leasts_sm hv) hP hPs hl w (hs.inv hI) (slOnes hI ol (i := 3) rfl)) ?_
      refine SXL.not rfl ?_
      refine SXL.nil ?_
      refine thenQ.normal ?_
      refine SX.condP rfl (fun c33 => ?_) (fun c33 => ?_)
      · refine SX.seq ?_
        refine SX.region ?_
        refine SXL.assign rfl ?_
        refine SXL.assign rfl ?_
        refine SXL.nil ?_
        refine thenQ.normal ?_
        refine SX.ret ?_
        refine thenQ.ret ?_
        refine retQ.dead [Sl.nil.ent 3 []] rfl ?_
        refine retQ.two (ResAt.tmp rfl) (ResAt.tmp rfl) ?_
        obtain ⟨e1, e2⟩ := fair_none he (fun h => c33 (canP_pad.2 h))
        exact LeR.errs e2 e1.symm
      · refine SX.skip ?_
        refine thenQ.normal ?_
        refine SX.seq ?_
        have hcan := canP_pad.1 (Classical.not_not.1 c33)
        refine SX.region ?_
        refine SXL.makeMap ?_; intro b5
        refine SXL.alloc zp_94 ?_; intro b6
        refine SXL.store 6 sz_94 rfl rfl rfl rfl rfl rfl ?_
        refine SXL.nil ?_
        refine thenQ.normal ?_
        refine SX.seq ?_
        refine SX.seq ?_
        refine SX.region ?_
        refine SXL.load1o 4 sh_33 rfl rfl rfl ?_
        refine SXL.len is_33 rfl ?_
        refine SXL.move rfl ?_
        refine SXL.nil ?_
        refine thenQ.normal ?_
        refine SX.block ?_
        refine SX.loopW (α := Nat × List (Int × Nat) × Nat) [3, 6, 7, 10, 11, 12, 36] rfl (fun ⟨k, ks, cl⟩ => [(37, .int .i64 ((k : Int)))]) (fun ⟨k, ks, cl⟩ => [(b0, .cells ⟨[.slice fo u.founts.length fc, .slice so u.streets.length sc]⟩ 25 (0, 0)), rn.ent 3 (ints (needs u best)), (b2, .cells ⟨suW u fo so fc sc (pad4 (waterL u week best)) (rn.val (needs u best).length)⟩ 78 (0, 0)), ql.ent 3 (ints (leasts u)), (b4, .cells ⟨[ql.val (leasts u).length]⟩ 33 (0, 0)), (b5, .map ⟨mkMap ks⟩ cl), (b6, .cells ⟨[.map (some b5)]⟩ 94 (0, 0))]) (fun ⟨k, ks, cl⟩ => []) (fun ⟨k, ks, cl⟩ => k ≤ (leasts u).length ∧ (mkeys ks).Nodup ∧ ∀ x, x ∈ mkeys ks ↔ 0 ≤ x ∧ x < (k : Int)) (fun ⟨k, ks, cl⟩ => (leasts u).length - k) (0, [], 0) ⟨Nat.zero_le _, List.nodup_nil, fun x => by simp [mkeys] <;> omega⟩ ⟨rfl, trivial⟩ rfl ?_
        rintro ⟨k, ks, cl⟩ ⟨hk, hnd, hks⟩
        refine SX.seq ?_
        refine SX.region ?_
        refine SXL.lss rfl rfl ?_
        refine SXL.nil ?_
        refine thenQ.normal ?_
        refine SX.seq ?_
        refine SX.condP rfl (fun c38 => ?_) (fun c38 => ?_)
        · refine SX.skip ?_
          refine thenQ.normal ?_
          refine SX.seq ?_
          refine SX.block ?_
          refine SX.seq ?_
          refine SX.region ?_
          refine SXL.move rfl ?_
          refine SXL.assign rfl ?_
          refine SXL.nil ?_
          refine thenQ.normal ?_
          refine SX.region ?_
          refine SXL.load1o 6 sh_94 rfl rfl rfl ?_
          refine SXL.move rfl ?_
          refine SXL.mapPut 5 mk_94 rfl rfl rfl rfl ?_
          refine SXL.nil ?_
          refine blockQ.normal ?_
          refine thenQ.normal ?_
          refine SX.region ?_
          refine SXL.add rfl rfl (by omega) ?_
          refine SXL.move rfl ?_
          refine SXL.nil ?_
          refine thenQ.normal ?_
          refine ⟨(k + 1, _, _), MeetsW.mkP _ ⟨rfl, trivial⟩ ⟨rfl, rfl, rfl, rfl, rfl, rfl, rfl, trivial⟩ rfl, ⟨by omega, mput_nodup hnd, fun x => by rw [mput_keys, hks]; omega⟩, (show (leasts u).length - (k + 1) < (leasts u).length - k by omega)⟩
        · refine SX.exit ?_
          refine thenQ.exit ?_
          refine thenQ.exit ?_
          refine blockQ.exit ?_
          refine thenQ.normal ?_
          refine SX.seq ?_
          obtain rfl : k = (leasts u).length := by omega
          refine SX.region ?_
          refine SXL.makeFunc rfl rfl ?_
          refine SXL.assign rfl ?_
          refine SXL.nil ?_
          refine thenQ.normal ?_
          refine SX.seq ?_
          refine SX.seq ?_
          refine SX.region ?_
          refine SXL.move rfl ?_
          refine SXL.call1V (.int .i64 (oI (poorTo (fun j => (j : Int) ∈ mkeys (ks)) (leasts u) (leasts u).length))) fn_56 rfl rfl (fun w hI => fair1_any (leasts u) (ks) cl b4 b6 b5 ql.addr (leasts u).length ql.cap rfl (by have h7 := leasts_len u; omega) w (ownCell hI (i := 4) rfl rfl) (slOnes hI (ol.list rfl) (i := 3) rfl) (ownCell hI (i := 6) rfl rfl) (hI.get (i := 5) rfl rfl).2) ?_
          refine SXL.assign rfl ?_
          refine SXL.nil ?_
          refine thenQ.normal ?_
          refine SX.block ?_
          refine SX.loopW (α := List Int × List (Int × Nat) × Nat × Int) [3, 6, 7, 10, 11, 12, 14] rfl (fun ⟨l, ks2, cl2, i⟩ => [(15, .int .i64 i)]) (fun ⟨l, ks2, cl2, i⟩ => [(b0, .cells ⟨[.slice fo u.founts.length fc, .slice so u.streets.length sc]⟩ 25 (0, 0)), rn.ent 3 (ints (needs u best)), (b2, .cells ⟨suW u fo so fc sc (pad4 (waterL u week best)) (rn.val (needs u best).length)⟩ 78 (0, 0)), ql.ent 3 (ints (l)), (b4, .cells ⟨[ql.val (leasts u).length]⟩ 33 (0, 0)), (b5, .map ⟨mkMap ks2⟩ cl2), (b6, .cells ⟨[.map (some b5)]⟩ 94 (0, 0))]) (fun ⟨l, ks2, cl2, i⟩ => []) (fun ⟨l, ks2, cl2, i⟩ => InP u l ∧ RchP u (pad4 (waterL u week best)) (leasts u) l ∧ OpP u (pad4 (waterL u week best)) l (mkeys ks2) ∧ (mkeys ks2).Nodup ∧ i = oI (poorTo (fun j => (j : Int) ∈ mkeys ks2) l (leasts u).length)) (fun ⟨l, ks2, cl2, i⟩ => roomTo u l u.streets.length + ks2.length) (leasts u, ks, cl, _) ⟨InP.leasts hv, RchP.refl _ _ _, fun j hj _ => (hks _).2 ⟨by omega, by omega⟩, hnd, rfl⟩ ⟨rfl, trivial⟩ rfl ?_
          rintro ⟨l, ks, cl, i⟩ ⟨hin, hrch, hop, hnd2, hi⟩
          refine SX.seq ?_
          refine SX.seq ?_
          refine SX.region ?_
          refine SXL.move rfl ?_
          refine SXL.geq rfl rfl ?_
          refine SXL.nil ?_
          refine thenQ.normal ?_
          refine SX.condP rfl (fun c47 => ?_) (fun c47 => ?_)
          · refine SX.skip ?_
            refine thenQ.normal ?_
            refine SX.seq ?_
            refine SX.block ?_
            refine SX.seq ?_
            obtain ⟨a, rfl⟩ : ∃ a : Nat, i = a := ⟨i.toNat, by omega⟩
            have hpa := oI_some hi
            have han : a < u.streets.length := by have := poorTo_lt hpa; omega
            have hna := hin.in_ a han
            have hll : l.length = (leasts u).length := by have := hin.len; omega
            have hla : (l.set a (l.getD a 0 + 1)).length = (leasts u).length := by rw [List.length_set]; exact hll
            have hln2 := hla
            have hmem : (a : Int) ∈ mkeys ks := (((poorTo_spec (fun j => (j : Int) ∈ mkeys ks) l (leasts u).length).2 a).1 hpa).2.1
            refine SX.region ?_
            refine SXL.load1o 4 sh_33 rfl rfl rfl ?_
            refine SXL.move rfl ?_
            refine SXL.indexSl 3 el_33 rfl rfl (by omega) rfl (ol.list hll) ?_; intro bx hbx
            refine SXL.loadSl1 3 (v := .int .i64 (l.getD a 0)) sh_3 rfl hbx rfl (ol.list hll) (intsAtX (i := a) (by simp) (by omega)) ?_
            refine SXL.add rfl rfl (by omega) ?_
            refine SXL.indexSl 3 el_33 rfl rfl (by omega) rfl (ol.list hll) ?_; intro bx2 hbx2; obtain rfl : bx = bx2 := Option.some.inj (hbx.symm.trans hbx2)
            refine SXL.storeI 3 (i := a) sz_3 rfl rfl hbx rfl (ol.list hll) (by simp) (by omega) ?_
            refine SXL.nil ?_
            refine thenQ.normal ?_
            refine SX.seq ?_
            obtain ⟨bs, os, has_, hms⟩ := hs.street (i := a) (by omega)
            refine SX.draw 18 (by kernel_rfl) (by kernel_rfl) {} ?_
            refine SXA.take 0 18 rfl (by kernel_rfl) rfl ?_
            refine SXL.load1o 4 sh_33 rfl rfl rfl ?_
            refine SXL.move rfl ?_
            refine SXL.indexSl 3 el_33 rfl rfl (by omega) rfl (ol.list hla) ?_; intro by_ hby_
            refine SXL.loadSl1 3 (v := .int .i64 (l.getD a 0 + 1)) sh_3 rfl hby_ rfl (ol.list hla) ((intsAtX (i := a) (by simp) (by rw [List.length_set]; omega)).trans (congrArg (fun z => some (Value.int .i64 z)) (getD_set_self _ (by omega)))) ?_
            refine SXL.fieldAddr fp_25_1 rfl ?_
            refine SXL.load1o 0 sh_23 rfl rfl rfl ?_
            refine SXL.move rfl ?_
            refine SXL.indexR el_23 rfl rfl has_ (by omega) ?_
            refine SXL.fieldAddr fp_73_1 rfl ?_
            refine SXL.fieldAddr fp_55_1 rfl ?_
            refine SXL.load1 sh_3 rfl ((hms _).sub (j := 2) (k := 1) rfl) ?_
            refine SXL.gtr rfl rfl ?_
            refine SXL.move rfl ?_
            apply SXL.orG 4
            case hl => exact rfl
            case hd => exact rfl
            case hg => exact rfl
            case ht =>
              intro c73
              refine SXL.pass rfl rfl rfl ?_
              refine SXL.pass rfl rfl rfl ?_
              refine SXL.pass rfl rfl rfl ?_
              refine SXL.pass rfl rfl rfl ?_
              exact SXL.nil (segQ.mk (.skip rfl (.skip rfl (.skip rfl (.skip rfl (.skip rfl (EnvSub.refl _)))))) rfl rfl rfl)
            case hf =>
              intro c73
              refine SXL.move rfl ?_
              refine SXL.load1o 4 sh_33 rfl rfl rfl ?_
              refine SXL.call1V (.bool (decide (CanP u (pad4 (waterL u week best)) (l.set a (l.getD a 0 + 1))))) fn_48 rfl rfl (fun w hI => can_n u fo so fc sc fa sa (pad4 (waterL u week best)) _ _ _ (l.set a (l.getD a 0 + 1)) ql.addr _ _ ql.cap rfl hln2 hz (by rw [List.length_set]; exact hin.len) hin.sm1 hP hPs hl w (hs.inv hI) (slOnes hI (ol.list hla) (i := 3) rfl)) ?_
              refine SXL.not rfl ?_
              exact SXL.nil (segQ.mk (.skip rfl (.skip rfl (.skip rfl (.skip rfl (.skip rfl (EnvSub.refl _)))))) rfl rfl ⟨rfl, rfl⟩)
            refine SXL.nil ⟨rfl, rfl, rfl, ?_⟩
            refine SXA.done (by kernel_rfl) ?_
            refine SXL.nil ?_
            refine thenQ.normal ?_
            refine SX.condP rfl (fun c73 => ?_) (fun c73 => ?_)
            · refine SX.seq ?_
              have hup : ¬UpP u (pad4 (waterL u week best)) l a := fun h => c73.elim (fun c => by have := h.1; omega) (fun c => c h.2)
              refine SX.region ?_
              refine SXL.load1o 4 sh_33 rfl rfl rfl ?_
              refine SXL.move rfl ?_
              refine SXL.indexSl 3 el_33 rfl rfl (by omega) rfl (ol.list hla) ?_; intro bz hbz
              refine SXL.loadSl1 3 (v := .int .i64 (l.getD a 0 + 1)) sh_3 rfl hbz rfl (ol.list hla) ((intsAtX (i := a) (by simp) (by rw [List.length_set]; omega)).trans (congrArg (fun z => some (Value.int .i64 z)) (getD_set_self _ (by omega)))) ?_
              refine SXL.sub rfl rfl (by omega) ?_
              refine SXL.indexSl 3 el_33 rfl rfl (by omega) rfl (ol.list hla) ?_; intro bz2 hbz2; obtain rfl : bz = bz2 := Option.some.inj (hbz.symm.trans hbz2)
              refine SXL.storeI 3 (i := a) sz_3 rfl rfl hbz rfl (ol.list hla) (by simp) (by rw [List.length_set]; omega) ?_; rw [set_back (l := l) (a := a) (x := l.getD a 0 + 1) (y := l.getD a 0 + 1 - 1) (by omega)]
              refine SXL.nil ?_
              refine thenQ.normal ?_
              refine SX.region ?_
              refine SXL.load1o 6 sh_94 rfl rfl rfl ?_
              refine SXL.move rfl ?_
              refine SXL.mapDel 5 mk_94 rfl rfl rfl rfl ?_
              refine SXL.nil ?_
              refine blockQ.normal ?_
              refine thenQ.normal ?_
              refine SX.region ?_
              refine SXL.move rfl ?_
              first
                | refine SXL.call1V (.int .i64 (oI (poorTo (fun j => (j : Int) ∈ mkeys (mdel ks (a : Int))) (l) (leasts u).length))) fn_56 rfl rfl (fun w hI => fair1_any (l) (mdel ks (a : Int)) _ b4 b6 b5 ql.addr (leasts u).length ql.cap hll (by have h7 := leasts_len u; omega) w (ownCell hI (i := 4) rfl rfl) (slOnes hI (ol.list hll) (i := 3) rfl) (ownCell hI (i := 6) rfl rfl) (hI.get (i := 5) rfl rfl).2) ?_
                | refine SXL.call1V (.int .i64 (oI (poorTo (fun j => (j : Int) ∈ mkeys (ks)) ((l.set a (l.getD a 0 + 1))) (leasts u).length))) fn_56 rfl rfl (fun w hI => fair1_any ((l.set a (l.getD a 0 + 1))) (ks) _ b4 b6 b5 ql.addr (leasts u).length ql.cap hla (by have h7 := leasts_len u; omega) w (ownCell hI (i := 4) rfl rfl) (slOnes hI (ol.list hla) (i := 3) rfl) (ownCell hI (i := 6) rfl rfl) (hI.get (i := 5) rfl rfl).2) ?_
              refine SXL.assign rfl ?_
              refine SXL.nil ?_
              refine thenQ.normal ?_
              refine ⟨(_, _, _, _), MeetsW.mkP _ ⟨rfl, trivial⟩ ⟨rfl, rfl, rfl, rfl, rfl, rfl, rfl, trivial⟩ rfl, ?_, ?_⟩
              · first
                | exact ⟨hin, hrch, hop.drop hup (fun x => mdel_keys hnd2), mdel_nodup hnd2, rfl⟩
                | (obtain ⟨c1, c2⟩ := not_or.1 c73; exact ⟨hin.up han (by omega), hrch.step (hop.poor (by rw [← hn0]; exact hpa) ⟨by omega, Classical.not_not.1 c2⟩), hop.step hin.len, hnd2, rfl⟩)
              · first
                | (have h1 := mdel_len hmem; show roomTo u l u.streets.length + (mdel ks (a : Int)).length < roomTo u l u.streets.length + ks.length; omega)
                | (obtain ⟨c1, c2⟩ := not_or.1 c73; have h1 := roomTo_set (u := u) (l := l) (a := a) (by omega) (by omega) u.streets.length han; show roomTo u (l.set a (l.getD a 0 + 1)) u.streets.length + ks.length < roomTo u l u.streets.length + ks.length; omega)
            · refine SX.skip ?_
              refine blockQ.normal ?_
              refine thenQ.normal ?_
              refine SX.region ?_
              refine SXL.move rfl ?_
              first
                | refine SXL.call1V (.int .i64 (oI (poorTo (fun j => (j : Int) ∈ mkeys (mdel ks (a : Int))) (l) (leasts u).length))) fn_56 rfl rfl (fun w hI => fair1_any (l) (mdel ks (a : Int)) _ b4 b6 b5 ql.addr (leasts u).length ql.cap hll (by have h7 := leasts_len u; omega) w (ownCell hI (i := 4) rfl rfl) (slOnes hI (ol.list hll) (i := 3) rfl) (ownCell hI (i := 6) rfl rfl) (hI.get (i := 5) rfl rfl).2) ?_
                | refine SXL.call1V (.int .i64 (oI (poorTo (fun j => (j : Int) ∈ mkeys (ks)) ((l.set a (l.getD a 0 + 1))) (leasts u).length))) fn_56 rfl rfl (fun w hI => fair1_any ((l.set a (l.getD a 0 + 1))) (ks) _ b4 b6 b5 ql.addr (leasts u).length ql.cap hla (by have h7 := leasts_len u; omega) w (ownCell hI (i := 4) rfl rfl) (slOnes hI (ol.list hla) (i := 3) rfl) (ownCell hI (i := 6) rfl rfl) (hI.get (i := 5) rfl rfl).2) ?_
              refine SXL.assign rfl ?_
              refine SXL.nil ?_
              refine thenQ.normal ?_
              refine ⟨(_, _, _, _), MeetsW.mkP _ ⟨rfl, trivial⟩ ⟨rfl, rfl, rfl, rfl, rfl, rfl, rfl, trivial⟩ rfl, ?_, ?_⟩
              · first
                | exact ⟨hin, hrch, hop.drop hup (fun x => mdel_keys hnd2), mdel_nodup hnd2, rfl⟩
                | (obtain ⟨c1, c2⟩ := not_or.1 c73; exact ⟨hin.up han (by omega), hrch.step (hop.poor (by rw [← hn0]; exact hpa) ⟨by omega, Classical.not_not.1 c2⟩), hop.step hin.len, hnd2, rfl⟩)
              · first
                | (have h1 := mdel_len hmem; show roomTo u l u.streets.length + (mdel ks (a : Int)).length < roomTo u l u.streets.length + ks.length; omega)
                | (obtain ⟨c1, c2⟩ := not_or.1 c73; have h1 := roomTo_set (u := u) (l := l) (a := a) (by omega) (by omega) u.streets.length han; show roomTo u (l.set a (l.getD a 0 + 1)) u.streets.length + ks.length < roomTo u l u.streets.length + ks.length; omega)
          · refine SX.exit ?_
            refine thenQ.exit ?_
            refine thenQ.exit ?_
            refine blockQ.exit ?_
            refine thenQ.normal ?_
            refine SX.seq ?_
            refine SX.region ?_
            refine SXL.load1o 4 sh_33 rfl rfl rfl ?_
            refine SXL.assign rfl ?_
            refine SXL.assign rfl ?_
            refine SXL.nil ?_
            refine thenQ.normal ?_
            refine SX.ret ?_
            refine retQ.sel [3] rfl rfl ?_
            refine retQ.two (ResAt.tmp rfl) (ResAt.tmp rfl) ?_
            have hno := oI_none hi c47
            rw [hn0] at hno
            obtain ⟨e1, e2⟩ := fair_some he hcan ((hrch _ (.done (hop.none hno))).congr (pad4_at _))
            rw [e1, e2]
            exact ⟨ql, by rw [hin.len, ← hn0]; exact ol.list (by have := hin.len; omega), by rw [hin.len, ← hn0], rfl⟩
end Go.Proofs.YtolcicaclflagaaDoor

/- The walks of the package town: the pulls. -/
namespace Go.Proofs.YtolcicaclflagaaDoor
open Go.X Go.S Go.T Go.RowKit
theorem cloneStreets (u : Su) (so : Option Addr) (sc : Nat) (sa : Nat → DA) (hn : u.streets.length ≤ 1000) (w : World) (h : RowsAt w so 5 (srRows u sa)) :
    CallsR Tryd.prog 60 [.slice so u.streets.length sc] w (IsSr u sa) := by
  refine CallsR.of_SX (n := 8) (rs := [.tmp 2]) Tryd.func60 rfl rfl rfl rfl ?_
  show SX _ _ _ ⟨[(0, .slice so u.streets.length sc)], [], []⟩
  refine SX.seq ?_
  refine SX.region ?_
  refine SXL.assign rfl ?_
  refine SXL.nil ?_
  refine thenQ.normal ?_
  refine SX.seq ?_
  refine SX.seq ?_
  refine SX.region ?_
  refine SXL.move rfl ?_
  refine SXL.eqlS is_23 rfl rfl ?_
  refine SXL.nil ?_
  refine thenQ.normal ?_
  refine SX.condP rfl (fun c4 => ?_) (fun c4 => ?_)
  · refine SX.seq ?_
    subst c4
    refine SX.region ?_
    refine SXL.assign rfl ?_
    refine SXL.nil ?_
    refine thenQ.normal ?_
    refine SX.ret ?_
    refine thenQ.ret ?_
    refine retQ.dead [Sl.nil.ent 73 []] rfl ?_
    refine retQ.one (ResAt.tmp rfl) ?_
    have hl0 : u.streets.length = 0 := by
      rcases h with h | ⟨b, o, h, _⟩
      · simpa [srRows] using h
      · cases h
    refine ⟨Sl.nil, ?_, ?_, ?_⟩ <;> rw [hl0]
    · exact .none _
    · rfl
    · rfl
  · refine SX.skip ?_
    refine thenQ.normal ?_
    refine SX.seq ?_
    refine SX.region ?_
    refine SXL.buildSlice0 et_23 ?_; intro b0
    refine SXL.move rfl ?_
    refine SXL.appendE (some b0) ap_23 rfl rfl (by have h1 := h.src (by omega) (srRowsN5 u sa _) ; rw [show (srRows u sa).length = u.streets.length by simp [srRows]] at h1; exact h1 _) (srRowsN_len u sa _) (srRowsN_one u sa _) ⟨by simp only [maxLen]; omega, by omega⟩ ?_; intro r_7 o_7
    refine SXL.assign rfl ?_
    refine SXL.nil ?_
    refine thenQ.normal ?_
    refine SX.ret ?_
    refine retQ.sel [1] rfl rfl ?_
    refine retQ.one (ResAt.tmp rfl) ?_
    exact ⟨r_7, o_7, rfl, rfl⟩
set_option maxHeartbeats 8000000 in
theorem tpulls_any (u : Su) (fo so : Option Addr) (fc sc : Nat) (fa : Nat → FA) (sa : Nat → DA) (week : Int) (best : Bool) (m : List Int) (mo : Option Addr) (mc : Nat) (hmx : m.length ≤ 1000000) (hcap : CapD u sa u.streets.length) (hl : LitP u) (w : World) (hg : Gt w) (hs : SuAt w u fo so fa sa) (hm : RowsAt w mo 1 (ones m)) :
    CallsR Tryd.prog 24 [.agg ⟨[.slice fo u.founts.length fc, .slice so u.streets.length sc]⟩, .int .i64 week, .bool best, .slice mo m.length mc] w (LpR (puL u week best m) (puE u week best m)) := by
  have hL0 := hl.1
  have hL1 := hl.2.1
  have hL2 := hl.2.2
  refine CallsR.of_SX (n := 157) (rs := [.tmp 8, .tmp 9]) Tryd.func24 rfl rfl rfl rfl ?_
  show SX _ _ _ ⟨[(0, .agg ⟨[.slice fo u.founts.length fc, .slice so u.streets.length sc]⟩), (1, .int .i64 week), (2, .bool best), (3, .slice mo m.length mc)], [], []⟩
  refine SX.seq ?_
  refine SX.region ?_
  refine SXL.box rfl rfl ?_; intro b0
  refine SXL.assign rfl ?_
  refine SXL.assign rfl ?_
  refine SXL.nil ?_
  refine thenQ.normal ?_
  refine SX.cutW (α := Nat × Sl × List Int × List Value) [3, 4, 8, 9] rfl (fun ⟨b2, rn, N, C⟩ => [(10, .pointer (some ⟨b2, 0, none⟩)), (11, .int .i64 ((askT u week ((m.length : Int) = (u.streets.length : Int) ∧ ∀ x ∈ m, Wi x 0 100) 94)))]) (fun ⟨b2, rn, N, C⟩ => [(b0, .cells ⟨[.slice fo u.founts.length fc, .slice so u.streets.length sc]⟩ 25 (0, 0)), rn.ent 3 (ints N), (b2, .cells ⟨C⟩ 78 (0, 0))]) (fun ⟨b2, rn, N, C⟩ => []) (fun ⟨b2, rn, N, C⟩ => C.length = 7 ∧ C.all isOne = true ∧ rn.Ok N.length 1 (ints N) ∧ (askT u week ((m.length : Int) = (u.streets.length : Int) ∧ ∀ x ∈ m, Wi x 0 100) 94 = 0 → C = suW u fo so fc sc (pad4 (waterL u week best)) (rn.val N.length) ∧ N = needs u best)) ?_ ?_
  · refine SX.draw 20 (by kernel_rfl) (by kernel_rfl) ⟨[16, 19], [true, false, false]⟩ ?_
    refine SXA.take 0 13 rfl (by kernel_rfl) rfl ?_
    refine SXL.loadNo 0 sh_25 rfl rfl rfl ?_
    refine SXL.move rfl ?_
    refine SXL.move rfl ?_
    refine SXL.move rfl ?_
    refine SXL.len is_33 rfl ?_
    refine SXL.fieldAddr fp_25_1 rfl ?_
    refine SXL.load1o 0 sh_23 rfl rfl rfl ?_
    refine SXL.len is_23 rfl ?_
    refine SXL.eqlI rfl rfl ?_
    refine SXL.move rfl ?_
    apply SXL.andG 2
    case hl => exact rfl
    case hd => exact rfl
    case hg => exact rfl
    case ht =>
      intro g1
      refine SXL.move rfl ?_
      refine SXL.call1 (.bool (decide (∀ x ∈ m, Wi x 0 100))) fn_59 rfl (fun w hI => tin_any m 0 100 mo mc hmx w (hm.inv hI)) ?_
      exact SXL.nil (segQ.mk (.skip rfl (.skip rfl (.skip rfl (EnvSub.refl _)))) rfl rfl ⟨rfl, rfl⟩)
    case hf =>
      intro g1
      refine SXL.pass rfl rfl rfl ?_
      refine SXL.pass rfl rfl rfl ?_
      exact SXL.nil (segQ.mk (.skip rfl (.skip rfl (.skip rfl (EnvSub.refl _)))) rfl rfl rfl)
    refine SXL.nil ⟨rfl, rfl, rfl, ?_⟩
    refine SXA.all [13, 17] (by kernel_rfl) rfl ⟨⟨?_, rfl⟩, ⟨?_, rfl⟩, trivial⟩
    · refine (show SXL _ _ [_] _ _ from ?_)
      refine SXL.callF (DrR u fo so fc sc (week) (best) (askT u (week) ((m.length : Int) = (u.streets.length : Int) ∧ ∀ x ∈ m, Wi x 0 100) (94))) fn_42 rfl (fun w hI => tasked_any u fo so fc sc fa sa (week) (best) ((m.length : Int) = (u.streets.length : Int) ∧ ∀ x ∈ m, Wi x 0 100) (94) (fun _ => by decide) hl w (hg.inv hI) (hs.inv hI)) ?_; rintro _ _ ⟨C, rn, N, hC1, hC2, hrn, rfl, rfl, hok⟩
      refine SXL.nil (stepQ.mk _ rfl rfl ?_)
      refine SXA.take 14 2 rfl (by kernel_rfl) rfl ?_
      refine SXL.move rfl ?_
      refine SXL.extract rfl rfl ?_
      refine SXL.nil ⟨rfl, rfl, rfl, ?_⟩
      refine SXA.takeM 16 1 rfl (by kernel_rfl) rfl ?_
      refine SXL.extract rfl rfl ?_
      refine SXL.nil ⟨rfl, rfl, rfl, ?_⟩
      refine SXA.all [17] (by kernel_rfl) rfl ⟨⟨?_, rfl⟩, trivial⟩
      refine (show SXL _ _ [_] _ _ from ?_)
      refine SXL.alloc zp_78 ?_; intro b2
      refine SXL.nil (stepQ.mk _ rfl rfl ?_)
      refine SXA.all [18] (by kernel_rfl) rfl ⟨⟨?_, rfl⟩, trivial⟩
      refine (show SXL _ _ [_] _ _ from ?_)
      refine SXL.store 2 sz_78 rfl rfl rfl rfl hC1 (putAt_all _ _ hC1) ?_ hC2
      refine SXL.nil (stepQ.mkL _ (by kernel_rfl) rfl rfl ?_)
      refine SXA.takeM 19 1 rfl (by kernel_rfl) rfl ?_
      refine SXL.assign rfl ?_
      refine SXL.nil ⟨rfl, rfl, rfl, ?_⟩
      refine SXA.done (by kernel_rfl) ?_
      refine SXL.nil ?_
      refine thenQ.normal ?_
      refine ⟨(b2, rn, N, C), MeetsW.mkS [0, 1, 2] ⟨rfl, rfl, trivial⟩ ⟨rfl, rfl, rfl, rfl, trivial⟩ rfl, ⟨hC1, hC2, hrn, hok⟩⟩
    · refine (show SXL _ _ [_] _ _ from ?_)
      refine SXL.alloc zp_78 ?_; intro b1
      refine SXL.nil (stepQ.mk _ rfl rfl ?_)
      refine SXA.all [13] (by kernel_rfl) rfl ⟨⟨?_, rfl⟩, trivial⟩
      refine (show SXL _ _ [_] _ _ from ?_)
      refine SXL.callF (DrR u fo so fc sc (week) (best) (askT u (week) ((m.length : Int) = (u.streets.length : Int) ∧ ∀ x ∈ m, Wi x 0 100) (94))) fn_42 rfl (fun w hI => tasked_any u fo so fc sc fa sa (week) (best) ((m.length : Int) = (u.streets.length : Int) ∧ ∀ x ∈ m, Wi x 0 100) (94) (fun _ => by decide) hl w (hg.inv hI) (hs.inv hI)) ?_; rintro _ _ ⟨C, rn, N, hC1, hC2, hrn, rfl, rfl, hok⟩
      refine SXL.nil (stepQ.mk _ rfl rfl ?_)
      refine SXA.take 14 2 rfl (by kernel_rfl) rfl ?_
      refine SXL.move rfl ?_
      refine SXL.extract rfl rfl ?_
      refine SXL.nil ⟨rfl, rfl, rfl, ?_⟩
      refine SXA.takeM 16 1 rfl (by kernel_rfl) rfl ?_
      refine SXL.extract rfl rfl ?_
      refine SXL.nil ⟨rfl, rfl, rfl, ?_⟩
      refine SXA.all [18] (by kernel_rfl) rfl ⟨⟨?_, rfl⟩, trivial⟩
      refine (show SXL _ _ [_] _ _ from ?_)
      refine SXL.store 1 sz_78 rfl rfl rfl rfl hC1 (putAt_all _ _ hC1) ?_ hC2
      refine SXL.nil (stepQ.mkL _ (by kernel_rfl) rfl rfl ?_)
      refine SXA.takeM 19 1 rfl (by kernel_rfl) rfl ?_
      refine SXL.assign rfl ?_
      refine SXL.nil ⟨rfl, rfl, rfl, ?_⟩
      refine SXA.done (by kernel_rfl) ?_
      refine SXL.nil ?_
      refine thenQ.normal ?_
      refine ⟨(b1, rn, N, C), MeetsW.mkS [0, 2, 1] ⟨rfl, rfl, trivial⟩ ⟨rfl, rfl, rfl, rfl, trivial⟩ rfl, ⟨hC1, hC2, hrn, hok⟩⟩
  rintro ⟨b2, rn, N, C⟩ ⟨hC1, hC2, hrn, hok⟩
  refine SX.seq ?_
  refine SX.seq ?_
  have hpp : askT u week (ShaP u m) 94 = askT u week ((m.length : Int) = (u.streets.length : Int) ∧ ∀ x ∈ m, Wi x 0 100) 94 := askT_congr ⟨fun h => ⟨by have := h.2; omega, h.1⟩, fun h => ⟨h.2, by have := h.1; omega⟩⟩
  refine SX.region ?_
  refine SXL.move rfl ?_
  refine SXL.neqI rfl rfl ?_
  refine SXL.nil ?_
  refine thenQ.normal ?_
  refine SX.condP rfl (fun c41 => ?_) (fun c41 => ?_)
  · refine SX.seq ?_
    refine SX.region ?_
    refine SXL.move rfl ?_
    refine SXL.assign rfl ?_
    refine SXL.assign rfl ?_
    refine SXL.nil ?_
    refine thenQ.normal ?_
    refine SX.ret ?_
    refine thenQ.ret ?_
    refine retQ.dead [Sl.nil.ent 100 []] rfl ?_
    refine retQ.two (ResAt.tmp rfl) (ResAt.tmp rfl) ?_
    rw [← hpp] at c41
    obtain ⟨e1, e2⟩ := pu_err (best := best) c41
    exact LpR.errs e2 (by rw [e1, hpp])
  · refine SX.skip ?_
    refine thenQ.normal ?_
    refine SX.seq ?_
    have he : askT u week (ShaP u m) 94 = 0 := by rw [hpp]; exact Classical.not_not.1 c41
    obtain ⟨hv, hw, hsh, ht⟩ := askT_ok (fun _ => by decide) he
    obtain ⟨rfl, rfl⟩ := hok (Classical.not_not.1 c41)
    have hz := hv.1
    have hz1 := hv.1
    unfold SizeP at hz1
    have hWl : (waterL u week best).length ≤ 4 := by rw [waterL_len]; omega
    have hP := pad4_len hWl
    have hPs := pad_sm (water_sm hv ht hw best)
    refine SX.region ?_
    refine SXL.fieldAddr fp_78_0 rfl ?_
    refine SXL.fieldAddr fp_25_1 rfl ?_
    refine SXL.load1o 2 sh_23 rfl rfl rfl ?_
    refine SXL.callF (IsSr u sa) fn_60 rfl (fun w hI => cloneStreets u so sc sa (by omega) w (hs.streets.inv hI)) ?_; rintro _ _ ⟨q, oq, rfl, rfl⟩
    refine SXL.move rfl ?_
    refine SXL.callF (IsI m) fn_43 rfl (fun w hI => cloneInts m mo mc hmx w (hm.inv hI)) ?_; rintro _ _ ⟨ql, ol, rfl, rfl⟩
    refine SXL.fieldAddr fp_78_0 rfl ?_
    refine SXL.fieldAddr fp_25_1 rfl ?_
    refine SXL.store 2 sz_23 rfl rfl rfl rfl rfl (welC_put1 hP) ?_
    refine SXL.assign rfl ?_
    refine SXL.nil ?_
    refine thenQ.normal ?_
    refine SX.seq ?_
    refine SX.seq ?_
    refine SX.region ?_
    refine SXL.loadNo 2 sh_78 rfl rfl (takeAt_full (k := 7) (welC_len hP)) ?_
    refine SXL.move rfl ?_
    refine SXL.call1 (.bool (decide (CanP u (pad4 (waterL u week best)) m))) fn_48 rfl (fun w hI => can_n u fo q.addr fc q.cap fa sa (pad4 (waterL u week best)) _ _ _ m ql.addr _ _ ql.cap rfl rfl hz hsh.2 (Sm.of (sha_in hsh)) hP hPs hl w (suAtS hI hs.founts hs.springs rfl oq (i := 3) rfl hs.draws) (slOnes hI ol (i := 4) rfl)) ?_
    refine SXL.not rfl ?_
    refine SXL.nil ?_
    refine thenQ.normal ?_
    refine SX.condP rfl (fun c54 => ?_) (fun c54 => ?_)
    · refine SX.seq ?_
      refine SX.region ?_
      refine SXL.assign rfl ?_
      refine SXL.assign rfl ?_
      refine SXL.nil ?_
      refine thenQ.normal ?_
      refine SX.ret ?_
      refine thenQ.ret ?_
      refine retQ.dead [Sl.nil.ent 100 []] rfl ?_
      refine retQ.two (ResAt.tmp rfl) (ResAt.tmp rfl) ?_
      obtain ⟨e1, e2⟩ := pu_none he (fun h => c54 (canP_pad.2 h))
      exact LpR.errs e2 e1.symm
    · refine SX.skip ?_
      refine thenQ.normal ?_
      refine SX.seq ?_
      have hcan := canP_pad.1 (Classical.not_not.1 c54)
      have hP0 : PI u 0 0 ⟨waterL u week best, m, []⟩ := PI.start (waterL_len u _ _) hsh.2 (water_in hv ht hw best) (sha_in hsh) hcan
      have hPS := PI.streets hv hP0
      refine SX.pad (Sl.nil.ent 100 []) rfl ?_
      refine SX.region ?_
      refine SXL.assign rfl ?_
      refine SXL.nil ?_
      refine thenQ.normal ?_
      refine SX.seq ?_
      refine SX.seq ?_
      refine SX.region ?_
      refine SXL.fieldAddr fp_25_1 rfl ?_
      refine SXL.load1o 0 sh_23 rfl rfl rfl ?_
      refine SXL.len is_23 rfl ?_
      refine SXL.move rfl ?_
      refine SXL.nil ?_
      refine thenQ.normal ?_
      refine SX.block ?_
      refine SX.loopW (α := Nat × List Int × List Int × Sl × Nat × List Value × (Nat → DA) × List Value) [3, 4, 8, 9, 10, 56, 57] rfl (fun ⟨i, w_, l, qo, no, c, ta, c2⟩ => [(58, .int .i64 ((i : Int))), (12, qo.val no)]) (fun ⟨i, w_, l, qo, no, c, ta, c2⟩ => [(b0, .cells ⟨[.slice fo u.founts.length fc, .slice so u.streets.length sc]⟩ 25 (0, 0)), rn.ent 3 (ints (needs u best)), (b2, .cells ⟨welC (.slice fo u.founts.length fc) (q.val u.streets.length) (pad4 w_) (rn.val (needs u best).length)⟩ 78 (0, 0)), q.ent 73 c2, ql.ent 3 (ints l), qo.ent 100 c]) (fun ⟨i, w_, l, qo, no, c, ta, c2⟩ => []) (fun ⟨i, w_, l, qo, no, c, ta, c2⟩ => i ≤ u.streets.length ∧ qo.Ok no 3 c ∧ (∃ out, (⟨w_, l, out⟩ : PS) = pulS u ⟨waterL u week best, m, []⟩ i ∧ c = (pulRows out).flatten) ∧ q.Ok u.streets.length 5 c2 ∧ c2 = (srRowsN (uD u i 0) ta u.streets.length).flatten ∧ ∀ j, j < u.streets.length → RowsAt w (ta j).1 1 (ones (dD u i 0 j))) (fun ⟨i, w_, l, qo, no, c, ta, c2⟩ => u.streets.length - i) (0, waterL u week best, m, Sl.nil, 0, [], sa, _) ⟨Nat.zero_le _, .none _, ⟨[], rfl, rfl⟩, oq, by rw [uD_start], fun j hj => by rw [← uD_draws hj, uD_start]; exact hs.draws j hj⟩ ⟨rfl, rfl, trivial⟩ rfl ?_
      rintro ⟨i, w_, l, qo, no, c, ta, c2⟩ ⟨hi, oo, ⟨out, hσ, rfl⟩, oq, hc2, hd⟩
      refine SX.seq ?_
      refine SX.region ?_
      refine SXL.lss rfl rfl ?_
      refine SXL.nil ?_
      refine thenQ.normal ?_
      refine SX.seq ?_
      refine SX.condP rfl (fun c59 => ?_) (fun c59 => ?_)
      · refine SX.skip ?_
        refine thenQ.normal ?_
        refine SX.seq ?_
        refine SX.block ?_
        refine SX.seq ?_
        obtain ⟨bs, os, has_, hms⟩ := hs.street (i := i) (by omega)
        have hLi := hL2 i (by omega)
        refine SX.region ?_
        refine SXL.move rfl ?_
        refine SXL.indexR el_23 rfl rfl has_ (by omega) ?_
        refine SXL.loadN sh_73 rfl (hms _) rfl ?_
        refine SXL.alloc zp_73 ?_; intro b6
        refine SXL.assign rfl ?_
        refine SXL.store 6 sz_73 rfl rfl rfl rfl rfl rfl ?_
        refine SXL.nil ?_
        refine thenQ.normal ?_
        refine SX.seq ?_
        refine SX.region ?_
        refine SXL.fieldAddr fp_73_3 rfl ?_
        refine SXL.load1o 6 sh_33 rfl rfl rfl ?_
        refine SXL.len is_33 rfl ?_
        refine SXL.move rfl ?_
        refine SXL.nil ?_
        refine thenQ.normal ?_
        refine SX.block ?_
        refine SX.loopW (α := Nat × List Int × List Int × Sl × Nat × List Value × (Nat → DA) × List Value) [3, 4, 8, 9, 10, 13, 14, 56, 57, 58, 64, 65] rfl (fun ⟨k, w_, l, qo, no, c, ta, c2⟩ => [(66, .int .i64 ((k : Int))), (12, qo.val no)]) (fun ⟨k, w_, l, qo, no, c, ta, c2⟩ => [(b0, .cells ⟨[.slice fo u.founts.length fc, .slice so u.streets.length sc]⟩ 25 (0, 0)), rn.ent 3 (ints (needs u best)), (b2, .cells ⟨welC (.slice fo u.founts.length fc) (q.val u.streets.length) (pad4 w_) (rn.val (needs u best).length)⟩ 78 (0, 0)), q.ent 73 c2, ql.ent 3 (ints l), qo.ent 100 c, (b6, .cells ⟨srC (u.streets.getD i default) (sa i)⟩ 73 (0, 0))]) (fun ⟨k, w_, l, qo, no, c, ta, c2⟩ => []) (fun ⟨k, w_, l, qo, no, c, ta, c2⟩ => k ≤ (u.streets.getD i default).draws.length ∧ qo.Ok no 3 c ∧ (∃ out, (⟨w_, l, out⟩ : PS) = pulD u i (pulS u ⟨waterL u week best, m, []⟩ i) k ∧ c = (pulRows out).flatten) ∧ q.Ok u.streets.length 5 c2 ∧ c2 = (srRowsN (uD u i (k)) ta u.streets.length).flatten ∧ ∀ j, j < u.streets.length → RowsAt w (ta j).1 1 (ones (dD u i k j))) (fun ⟨k, w_, l, qo, no, c, ta, c2⟩ => (u.streets.getD i default).draws.length - k) (0, w_, l, qo, no, _, ta, _) ⟨Nat.zero_le _, oo, ⟨out, hσ, rfl⟩, oq, hc2, hd⟩ ⟨rfl, rfl, trivial⟩ rfl ?_
        rintro ⟨k, w_, l, qo, no, c, ta, c2⟩ ⟨hk, oo, ⟨out, hτ, rfl⟩, oq, hc2, hd⟩
        refine SX.seq ?_
        refine SX.region ?_
        refine SXL.lss rfl rfl ?_
        refine SXL.nil ?_
        refine thenQ.normal ?_
        refine SX.seq ?_
        refine SX.condP rfl (fun c67 => ?_) (fun c67 => ?_)
        · refine SX.skip ?_
          refine thenQ.normal ?_
          refine SX.seq ?_
          refine SX.block ?_
          refine SX.seq ?_
          obtain ⟨bd, od, had, hmd⟩ := oneI (hs.draws i (by omega)) (i := k) (by omega)
          have hP1 := PI.drawn hv (hPS i (by omega)) (by omega) k (by omega)
          rw [← hτ] at hP1
          have hwf : w_.length = u.founts.length := hP1.lw
          have hlf : l.length = u.streets.length := hP1.ll
          have hw_ : ∀ j, 0 ≤ w_.getD j 0 ∧ w_.getD j 0 ≤ 100 := hP1.w_
          have hl_ : ∀ j, 0 ≤ l.getD j 0 ∧ l.getD j 0 ≤ 100 := hP1.l_
          have hp4 : (pad4 w_).length = 4 := pad4_len (by omega)
          have hll : l.length = m.length := by have := hsh.2; omega
          have okl := ol.list hll
          obtain ⟨hf0, hfn, hfid⟩ := fou_at hv (show i < u.streets.length by omega) (show k < (u.streets.getD i default).draws.length by omega)
          have hfi : fountI u (drawI u i k) = ((fouN u i k) : Int) := (Int.toNat_of_nonneg hf0).symm
          have hwa := hw_ (fouN u i k)
          have hli := hl_ i
          refine SX.region ?_
          refine SXL.move rfl ?_
          refine SXL.indexR el_33 rfl rfl had (by omega) ?_
          refine SXL.load1 sh_3 rfl (hmd _) ?_
          refine SXL.assign rfl ?_
          refine SXL.assign rfl ?_
          refine SXL.nil ?_
          refine thenQ.normal ?_
          refine SX.seq ?_
          refine SX.region ?_
          refine SXL.fieldAddr fp_73_0 rfl ?_
          refine SXL.load1o 6 sh_3 rfl rfl rfl ?_
          refine SXL.move rfl ?_
          refine SXL.buildS pl_100 zp_100 rfl rfl ?_
          refine SXL.alloc zp_100 ?_; intro b7
          refine SXL.store 7 sz_100 rfl rfl rfl rfl rfl rfl ?_
          refine SXL.nil ?_
          refine thenQ.normal ?_
          refine SX.seq ?_
          refine SX.region ?_
          refine SXL.loadNo 0 sh_25 rfl rfl rfl ?_
          refine SXL.move rfl ?_
          refine SXL.call1 (.int .i64 (fountI u (drawI u i k))) fn_61 rfl (fun w hI => tfount_any u fo so fc sc fa sa (drawI u i k) hl w (hs.inv hI)) ?_
          refine SXL.assign rfl ?_
          refine SXL.nil ?_
          refine thenQ.normal ?_
          refine SX.cutW (α := (Nat → DA) × List Value) [3, 4, 8, 9, 10, 12, 13, 14, 16, 17, 18, 56, 57, 58, 64, 65, 66] rfl (fun ⟨ta3, c3⟩ => []) (fun ⟨ta3, c3⟩ => [(b0, .cells ⟨[.slice fo u.founts.length fc, .slice so u.streets.length sc]⟩ 25 (0, 0)), rn.ent 3 (ints (needs u best)), (b2, .cells ⟨welC (.slice fo u.founts.length fc) (q.val u.streets.length) (pad4 w_) (rn.val (needs u best).length)⟩ 78 (0, 0)), q.ent 73 c3, ql.ent 3 (ints l), qo.ent 100 (pulRows out).flatten, (b6, .cells ⟨srC (u.streets.getD i default) (sa i)⟩ 73 (0, 0)), (b7, .cells ⟨[.int .i64 (u.streets.getD i default).id, .int .i64 (drawI u i k), .int .i64 0]⟩ 100 (0, 0))]) (fun ⟨ta3, c3⟩ => []) (fun ⟨ta3, c3⟩ => c3 = (srRowsN (uD u i (k + 1)) ta3 u.streets.length).flatten ∧ q.Ok u.streets.length 5 c3 ∧ ∀ j, j < u.streets.length → RowsAt w (ta3 j).1 1 (ones (dD u i (k + 1) j))) ?_ ?_
          · refine SX.draw 11 (by kernel_rfl) (by kernel_rfl) {} ?_
            refine SXA.take 0 11 rfl (by kernel_rfl) rfl ?_
            refine SXL.fieldAddr fp_78_0 rfl ?_
            refine SXL.fieldAddr fp_25_1 rfl ?_
            refine SXL.load1o 2 sh_23 rfl rfl rfl ?_
            refine SXL.move rfl ?_
            refine SXL.fieldAddr fp_73_3 rfl ?_
            refine SXL.load1o 6 sh_33 rfl rfl rfl ?_
            refine SXL.move rfl ?_
            refine SXL.add rfl rfl (by omega) ?_
            refine SXL.sliceL el_33 rfl rfl (by omega) ?_
            refine SXL.indexSl 3 el_23 rfl rfl (by omega) rfl oq ?_; intro bz hbz
            refine SXL.fieldAddr fp_73_3 rfl ?_
            refine SXL.nil ⟨rfl, rfl, rfl, ?_⟩
            refine SXA.done (by kernel_rfl) ?_
            refine SXL.storeS 3 sz_33 rfl rfl hbz rfl oq rfl rfl (by rw [hc2, srRowsN_len]; omega) ?_
            refine SXL.nil ?_
            refine thenQ.normal ?_
            refine ⟨(upd ta i (cutAddr (sa i).1 (k + 1) (sa i).2 1, (sa i).2 - (k + 1)), _), MeetsW.mkP _ trivial ⟨rfl, rfl, rfl, rfl, rfl, rfl, rfl, rfl, rfl, rfl, rfl, rfl, rfl, rfl, rfl, rfl, rfl, trivial⟩ rfl, ⟨by rw [show 0 + ((i : Int)).toNat * 5 + 4 = i * 5 + 4 by omega, hc2]; exact uD_set (u := u) (sa := ta) (i := i) (k := k) (a := (cutAddr (sa i).1 (k + 1) (sa i).2 1, (sa i).2 - (k + 1))) (by omega) (List.length_drop ..), oq.cells (by rw [List.length_set]), drawsCut hd (hs.draws i (by omega)) (hcap i (by omega))⟩⟩
          rintro ⟨ta3, c3⟩ ⟨hc3, oq3, hd3⟩
          refine SX.seq ?_
          refine SX.region ?_
          refine SXL.assign rfl ?_
          refine SXL.nil ?_
          refine thenQ.normal ?_
          refine SX.seq ?_
          refine SX.seq ?_
          refine SX.region ?_
          refine SXL.assign rfl ?_
          refine SXL.nil ?_
          refine thenQ.normal ?_
          refine SX.block ?_
          refine SX.loopW (α := Nat × Int) [3, 4, 8, 9, 10, 12, 13, 14, 16, 17, 18, 56, 57, 58, 64, 65, 66] rfl (fun ⟨n, be⟩ => [(20, .int .i64 ((n : Int))), (19, .int .i64 be)]) (fun ⟨n, be⟩ => [(b0, .cells ⟨[.slice fo u.founts.length fc, .slice so u.streets.length sc]⟩ 25 (0, 0)), rn.ent 3 (ints (needs u best)), (b2, .cells ⟨welC (.slice fo u.founts.length fc) (q.val u.streets.length) (pad4 w_) (rn.val (needs u best).length)⟩ 78 (0, 0)), q.ent 73 c3, ql.ent 3 (ints l), qo.ent 100 (pulRows out).flatten, (b6, .cells ⟨srC (u.streets.getD i default) (sa i)⟩ 73 (0, 0)), (b7, .cells ⟨[.int .i64 (u.streets.getD i default).id, .int .i64 (drawI u i k), .int .i64 0]⟩ 100 (0, 0))]) (fun ⟨n, be⟩ => []) (fun ⟨n, be⟩ => n ≤ (min (l.getD i 0) (w_.getD (fouN u i k) 0)).toNat + 1 ∧ be = bst (fun z : Nat => CanP (uD u i (k + 1)) (pad4 (w_.set (fouN u i k) (w_.getD (fouN u i k) 0 - (z : Int)))) (l.set i (l.getD i 0 - (z : Int)))) n) (fun ⟨n, be⟩ => (min (l.getD i 0) (w_.getD (fouN u i k) 0)).toNat + 1 - n) (0, -1) ⟨Nat.zero_le _, rfl⟩ ⟨rfl, rfl, trivial⟩ rfl ?_
          rintro ⟨n, be⟩ ⟨hn, hbe⟩
          have hQ : ∀ z : Nat, z ≤ (min (l.getD i 0) (w_.getD (fouN u i k) 0)).toNat → (CanP (uD u i (k + 1)) (pad4 (w_.set (fouN u i k) (w_.getD (fouN u i k) 0 - (z : Int)))) (l.set i (l.getD i 0 - (z : Int))) ↔ PullP u i k w_ l z) := fun z hz => canP_pad.trans (PI.uD hP1 (by omega) (by show (z : Int) ≤ min (l.getD i 0) (w_.getD (fouN u i k) 0); omega))
          refine SX.seq ?_
          refine SX.seq ?_
          refine SX.draw 11 (by kernel_rfl) (by kernel_rfl) {} ?_
          refine SXA.take 0 11 rfl (by kernel_rfl) rfl ?_
          refine SXL.move rfl ?_
          refine SXL.move rfl ?_
          refine SXL.move rfl ?_
          refine SXL.indexSl 4 el_33 rfl rfl (by omega) rfl okl ?_; intro y0 hy0
          refine SXL.loadSl1 4 (v := .int .i64 (l.getD i 0)) sh_3 rfl hy0 rfl okl (intsAtX (i := i) (by simp) (by omega)) ?_
          refine SXL.move rfl ?_
          refine SXL.fieldAddr fp_78_1 rfl ?_
          refine SXL.indexA el_76 rfl rfl (by omega) ?_
          refine SXL.load1o 2 sh_3 rfl rfl ((welC_at (W := pad4 w_) (i := (fouN u i k)) (by unfold fouN; omega) (by omega)).trans (congrArg (fun z => some (Value.int .i64 z)) (pad4_at w_ _))) ?_
          refine SXL.min rfl rfl ?_
          refine SXL.leq rfl rfl ?_
          refine SXL.nil ⟨rfl, rfl, rfl, ?_⟩
          refine SXA.done (by kernel_rfl) ?_
          refine SXL.nil ?_
          refine thenQ.normal ?_
          refine SX.condP rfl (fun c99 => ?_) (fun c99 => ?_)
          · refine SX.skip ?_
            refine thenQ.normal ?_
            refine SX.seq ?_
            refine SX.block ?_
            refine SX.cutW (α := Nat × Sl) [3, 4, 8, 9, 10, 12, 13, 14, 16, 17, 18, 19, 20, 56, 57, 58, 64, 65, 66] rfl (fun ⟨b9, rq⟩ => [(21, .pointer (some ⟨b9, 0, none⟩)), (22, rq.val l.length)]) (fun ⟨b9, rq⟩ => [(b0, .cells ⟨[.slice fo u.founts.length fc, .slice so u.streets.length sc]⟩ 25 (0, 0)), rn.ent 3 (ints (needs u best)), (b2, .cells ⟨welC (.slice fo u.founts.length fc) (q.val u.streets.length) (pad4 w_) (rn.val (needs u best).length)⟩ 78 (0, 0)), q.ent 73 c3, ql.ent 3 (ints l), qo.ent 100 (pulRows out).flatten, (b6, .cells ⟨srC (u.streets.getD i default) (sa i)⟩ 73 (0, 0)), (b7, .cells ⟨[.int .i64 (u.streets.getD i default).id, .int .i64 (drawI u i k), .int .i64 0]⟩ 100 (0, 0)), rq.ent 3 (ints l), (b9, .cells ⟨welC (.slice fo u.founts.length fc) (q.val u.streets.length) (pad4 w_) (rn.val (needs u best).length)⟩ 78 (0, 0))]) (fun ⟨b9, rq⟩ => []) (fun ⟨b9, rq⟩ => rq.Ok l.length 1 (ints l)) ?_ ?_
            · refine SX.draw 4 (by kernel_rfl) (by kernel_rfl) {} ?_
              refine SXA.take 0 2 rfl (by kernel_rfl) rfl ?_
              refine SXL.loadNo 2 sh_78 rfl rfl (takeAt_full (k := 7) (welC_len hp4)) ?_
              refine SXL.move rfl ?_
              refine SXL.nil ⟨rfl, rfl, rfl, ?_⟩
              refine SXA.all [2, 3] (by kernel_rfl) rfl ⟨⟨?_, rfl⟩, ⟨?_, rfl⟩, trivial⟩
              · refine (show SXL _ _ [_] _ _ from ?_)
                refine SXL.callF (IsI l) fn_43 rfl (fun w hI => cloneN l ql.addr _ ql.cap hll (by omega) w (slOnes hI okl (i := 4) rfl)) ?_; rintro _ _ ⟨rq, orq, rfl, rfl⟩
                refine SXL.nil (stepQ.mk _ rfl rfl ?_)
                refine SXA.all [3] (by kernel_rfl) rfl ⟨⟨?_, rfl⟩, trivial⟩
                refine (show SXL _ _ [_] _ _ from ?_)
                refine SXL.alloc zp_78 ?_; intro b9
                refine SXL.nil (stepQ.mk _ rfl rfl ?_)
                refine SXA.done (by kernel_rfl) ?_
                refine SXL.store 9 sz_78 rfl rfl rfl rfl (welC_len hp4) (putAt_all _ _ (welC_len hp4)) ?_ (welC_one rfl rfl rfl)
                refine SXL.assign rfl ?_
                refine SXL.nil ?_
                refine thenQ.normal ?_
                refine ⟨(b9, rq), MeetsW.mkS [0, 1, 2, 3, 4, 5, 6, 7, 8, 9] ⟨rfl, rfl, trivial⟩ ⟨rfl, rfl, rfl, rfl, rfl, rfl, rfl, rfl, rfl, rfl, rfl, rfl, rfl, rfl, rfl, rfl, rfl, rfl, rfl, trivial⟩ rfl, orq⟩
              · refine (show SXL _ _ [_] _ _ from ?_)
                refine SXL.alloc zp_78 ?_; intro b8
                refine SXL.nil (stepQ.mk _ rfl rfl ?_)
                refine SXA.all [2] (by kernel_rfl) rfl ⟨⟨?_, rfl⟩, trivial⟩
                refine (show SXL _ _ [_] _ _ from ?_)
                refine SXL.callF (IsI l) fn_43 rfl (fun w hI => cloneN l ql.addr _ ql.cap hll (by omega) w (slOnes hI okl (i := 4) rfl)) ?_; rintro _ _ ⟨rq, orq, rfl, rfl⟩
                refine SXL.nil (stepQ.mk _ rfl rfl ?_)
                refine SXA.done (by kernel_rfl) ?_
                refine SXL.store 8 sz_78 rfl rfl rfl rfl (welC_len hp4) (putAt_all _ _ (welC_len hp4)) ?_ (welC_one rfl rfl rfl)
                refine SXL.assign rfl ?_
                refine SXL.nil ?_
                refine thenQ.normal ?_
                refine ⟨(b8, rq), MeetsW.mkS [0, 1, 2, 3, 4, 5, 6, 7, 9, 8] ⟨rfl, rfl, trivial⟩ ⟨rfl, rfl, rfl, rfl, rfl, rfl, rfl, rfl, rfl, rfl, rfl, rfl, rfl, rfl, rfl, rfl, rfl, rfl, rfl, trivial⟩ rfl, orq⟩
            rintro ⟨b9, rq⟩ orq
            have okr := orq
            refine SX.seq ?_
            refine SX.region ?_
            refine SXL.move rfl ?_
            refine SXL.fieldAddr fp_78_1 rfl ?_
            refine SXL.indexA el_76 rfl rfl (by omega) ?_
            refine SXL.load1o 9 sh_3 rfl rfl ((welC_at (W := pad4 w_) (i := (fouN u i k)) (by unfold fouN; omega) (by omega)).trans (congrArg (fun z => some (Value.int .i64 z)) (pad4_at w_ _))) ?_
            refine SXL.move rfl ?_
            refine SXL.sub rfl rfl (by omega) ?_
            refine SXL.fieldAddr fp_78_1 rfl ?_
            refine SXL.indexA el_76 rfl rfl (by omega) ?_
            refine SXL.store 9 sz_3 rfl rfl rfl rfl rfl ((welC_put (i := (fouN u i k)) (by unfold fouN; omega) (by omega)).trans (congrArg (fun z => some (welC _ _ z _)) (pad4_set (by omega) _))) ?_
            refine SXL.nil ?_
            refine thenQ.normal ?_
            refine SX.seq ?_
            refine SX.region ?_
            refine SXL.move rfl ?_
            refine SXL.move rfl ?_
            refine SXL.indexSl 8 el_33 rfl rfl (by omega) rfl okr ?_; intro y1 hy1
            refine SXL.loadSl1 8 (v := .int .i64 (l.getD i 0)) sh_3 rfl hy1 rfl okr (intsAtX (i := i) (by simp) (by omega)) ?_
            refine SXL.move rfl ?_
            refine SXL.sub rfl rfl (by omega) ?_
            refine SXL.indexSl 8 el_33 rfl rfl (by omega) rfl okr ?_; intro y2 hy2; obtain rfl : y1 = y2 := Option.some.inj (hy1.symm.trans hy2)
            refine SXL.storeI 8 (i := i) sz_3 rfl rfl hy1 rfl okr (by simp) (by omega) ?_
            refine SXL.nil ?_
            refine thenQ.normal ?_
            refine SX.seq ?_
            refine SX.region ?_
            refine SXL.loadNo 9 sh_78 rfl rfl (takeAt_full (k := 7) (welC_len (pad4_len (by rw [List.length_set]; omega)))) ?_
            refine SXL.move rfl ?_
            refine SXL.call1 (.bool (decide (CanP (uD u i (k + 1)) (pad4 (w_.set (fouN u i k) (w_.getD (fouN u i k) 0 - (n : Int)))) (l.set i (l.getD i 0 - (n : Int)))))) fn_48 rfl (fun w hI => can_n (uD u i (k + 1)) fo q.addr fc q.cap fa ta3 (pad4 (w_.set (fouN u i k) (w_.getD (fouN u i k) 0 - (n : Int)))) _ _ _ (l.set i (l.getD i 0 - (n : Int))) rq.addr _ _ rq.cap (uD_len u i _) (by simp) (uD_size hv.1 i _) (by rw [List.length_set, uD_len]; exact hlf) (set_sm hl_ (by omega)) (pad4_len (by rw [List.length_set]; omega)) (pad_sm (set_sm hw_ (by omega))) (uD_lit hl i _) w (suAtS hI (v := (uD u i (k + 1))) hs.founts hs.springs (uD_len u i _).symm (hc3 ▸ oq3) (i := 3) (hc3 ▸ rfl) (fun j hj => by rw [uD_draws hj]; exact hd3 j hj)) (slOnes hI (orq.setI i _) (i := 8) rfl)) ?_
            refine SXL.nil ?_
            refine thenQ.normal ?_
            refine SX.condP rfl (fun c122 => ?_) (fun c122 => ?_)
            · refine SX.region ?_
              refine SXL.move rfl ?_
              refine SXL.assign rfl ?_
              refine SXL.nil ?_
              refine blockQ.normal ?_
              refine thenQ.normal ?_
              refine SX.region ?_
              refine SXL.move rfl ?_
              refine SXL.add rfl rfl (by omega) ?_
              refine SXL.assign rfl ?_
              refine SXL.nil ?_
              refine thenQ.normal ?_
              refine ⟨(n + 1, _), MeetsW.mkP _ ⟨rfl, rfl, trivial⟩ ⟨rfl, rfl, rfl, rfl, rfl, rfl, rfl, rfl, rfl, rfl, rfl, rfl, rfl, rfl, rfl, rfl, rfl, trivial⟩ rfl, ⟨by omega, ?_⟩, (show (min (l.getD i 0) (w_.getD (fouN u i k) 0)).toNat + 1 - (n + 1) < (min (l.getD i 0) (w_.getD (fouN u i k) 0)).toNat + 1 - n by omega)⟩
              first
                | exact (if_pos c122).symm
                | exact hbe.trans (if_neg c122).symm
            · refine SX.skip ?_
              refine blockQ.normal ?_
              refine thenQ.normal ?_
              refine SX.region ?_
              refine SXL.move rfl ?_
              refine SXL.add rfl rfl (by omega) ?_
              refine SXL.assign rfl ?_
              refine SXL.nil ?_
              refine thenQ.normal ?_
              refine ⟨(n + 1, _), MeetsW.mkP _ ⟨rfl, rfl, trivial⟩ ⟨rfl, rfl, rfl, rfl, rfl, rfl, rfl, rfl, rfl, rfl, rfl, rfl, rfl, rfl, rfl, rfl, rfl, trivial⟩ rfl, ⟨by omega, ?_⟩, (show (min (l.getD i 0) (w_.getD (fouN u i k) 0)).toNat + 1 - (n + 1) < (min (l.getD i 0) (w_.getD (fouN u i k) 0)).toNat + 1 - n by omega)⟩
              first
                | exact (if_pos c122).symm
                | exact hbe.trans (if_neg c122).symm
          · refine SX.exit ?_
            refine thenQ.exit ?_
            refine thenQ.exit ?_
            refine blockQ.exit ?_
            refine thenQ.normal ?_
            refine SX.seq ?_
            obtain rfl : n = (min (l.getD i 0) (w_.getD (fouN u i k) 0)).toNat + 1 := by omega
            have hbm : max 0 be = ((pulN u i k w_ l) : Int) := by rw [hbe]; exact (bst_max _).trans (congrArg _ (lgst_congr _ fun z hz => hQ z hz))
            have hnle := pulN_le u i k w_ l
            refine SX.region ?_
            refine SXL.move rfl ?_
            refine SXL.max rfl rfl ?_
            rw [hbm]
            refine SXL.fieldAddr fp_100_2 rfl ?_
            refine SXL.store 7 sz_3 rfl rfl rfl rfl rfl rfl ?_
            refine SXL.nil ?_
            refine thenQ.normal ?_
            refine SX.seq ?_
            refine SX.draw 9 (by kernel_rfl) (by kernel_rfl) {} ?_
            refine SXA.take 0 9 rfl (by kernel_rfl) rfl ?_
            refine SXL.move rfl ?_
            refine SXL.fieldAddr fp_78_1 rfl ?_
            refine SXL.indexA el_76 rfl rfl (by omega) ?_
            refine SXL.load1o 2 sh_3 rfl rfl ((welC_at (W := pad4 w_) (i := (fouN u i k)) (by unfold fouN; omega) (by omega)).trans (congrArg (fun z => some (Value.int .i64 z)) (pad4_at w_ _))) ?_
            refine SXL.fieldAddr fp_100_2 rfl ?_
            refine SXL.load1o 7 sh_3 rfl rfl rfl ?_
            refine SXL.sub rfl rfl (by omega) ?_
            refine SXL.fieldAddr fp_78_1 rfl ?_
            refine SXL.indexA el_76 rfl rfl (by omega) ?_
            refine SXL.nil ⟨rfl, rfl, rfl, ?_⟩
            refine SXA.done (by kernel_rfl) ?_
            refine SXL.store 2 sz_3 rfl rfl rfl rfl rfl ((welC_put (i := (fouN u i k)) (by unfold fouN; omega) (by omega)).trans (congrArg (fun z => some (welC _ _ z _)) (pad4_set (by omega) _))) ?_
            refine SXL.nil ?_
            refine thenQ.normal ?_
            refine SX.seq ?_
            refine SX.draw 8 (by kernel_rfl) (by kernel_rfl) {} ?_
            refine SXA.take 0 8 rfl (by kernel_rfl) rfl ?_
            refine SXL.move rfl ?_
            refine SXL.move rfl ?_
            refine SXL.indexSl 4 el_33 rfl rfl (by omega) rfl okl ?_; intro y3 hy3
            refine SXL.loadSl1 4 (v := .int .i64 (l.getD i 0)) sh_3 rfl hy3 rfl okl (intsAtX (i := i) (by simp) (by omega)) ?_
            refine SXL.fieldAddr fp_100_2 rfl ?_
            refine SXL.load1o 7 sh_3 rfl rfl rfl ?_
            refine SXL.sub rfl rfl (by omega) ?_
            refine SXL.indexSl 4 el_33 rfl rfl (by omega) rfl okl ?_; intro y4 hy4; obtain rfl : y3 = y4 := Option.some.inj (hy3.symm.trans hy4)
            refine SXL.nil ⟨rfl, rfl, rfl, ?_⟩
            refine SXA.done (by kernel_rfl) ?_
            refine SXL.storeI 4 (i := i) sz_3 rfl rfl hy3 rfl okl (by simp) (by omega) ?_
            refine SXL.nil ?_
            refine thenQ.normal ?_
            refine SX.seq ?_
            refine SX.region ?_
            refine SXL.loadNo 7 sh_100 rfl rfl rfl ?_
            refine SXL.fieldAddr fp_73_0 rfl ?_
            refine SXL.load1o 6 sh_3 rfl rfl rfl ?_
            refine SXL.move rfl ?_
            refine SXL.buildS pl_100 zp_100 rfl rfl ?_
            refine SXL.neqV (p := [(u.streets.getD i default).id, drawI u i k, ((pulN u i k w_ l) : Int)] ≠ [(u.streets.getD i default).id, drawI u i k, 0]) (u := .agg ⟨ints ([(u.streets.getD i default).id, drawI u i k, ((pulN u i k w_ l) : Int)])⟩) (v := .agg ⟨ints ([(u.streets.getD i default).id, drawI u i k, 0])⟩) rfl rfl (run_neq_ints eq_100 eg_100 sh_100 rfl rfl) ?_
            refine SXL.nil ?_
            refine thenQ.normal ?_
            refine SX.condP rfl (fun c149 => ?_) (fun c149 => ?_)
            · have hno := Ok.puls oo
              have hpl := pulD_len u i (pulS u ⟨waterL u week best, m, []⟩ i) k
              rw [← hτ] at hpl
              have hps := pulS_len (s := ⟨waterL u week best, m, []⟩) hL2 i (by omega)
              simp only [List.length_nil] at hps
              have hpl2 : out.length ≤ (pulS u ⟨waterL u week best, m, []⟩ i).out.length + k := hpl
              refine SX.region ?_
              refine SXL.move rfl ?_
              refine SXL.loadNo 7 sh_100 rfl rfl rfl ?_
              refine SXL.buildSlice et_47 zp_100 rfl rfl rfl rfl ?_; intro b8
              refine SXL.append 5 ap_47 rfl rfl oo rfl (.inr ⟨_, _, rfl, Mem.own (i := 8) rfl (takeAt_all _)⟩) rfl rfl ⟨by simp only [maxLen]; omega, by omega⟩ ?_; intro r_153 o_153
              refine SXL.assign rfl ?_
              refine SXL.nil ?_
              refine blockQ.normal ?_
              refine thenQ.normal ?_
              refine SX.region ?_
              refine SXL.add rfl rfl (by omega) ?_
              refine SXL.move rfl ?_
              refine SXL.nil ?_
              refine thenQ.normal ?_
              refine ⟨(k + 1, _, _, _, _, _, ta3, _), MeetsW.mkP _ ⟨rfl, rfl, trivial⟩ ⟨rfl, rfl, rfl, rfl, rfl, rfl, rfl, rfl, rfl, rfl, rfl, rfl, trivial⟩ rfl, ?_, (show (u.streets.getD i default).draws.length - (k + 1) < (u.streets.getD i default).draws.length - k by omega)⟩
              first
                | (have hn0 : (pulN u i k w_ l) = 0 := by simpa using c149
                   have hy := pull1_z (u := u) (i := i) (k := k) (s := ⟨w_, l, out⟩) hn0
                   exact ⟨by omega, oo, ⟨out, hy.symm.trans (congrArg (pull1 u i k) hτ), rfl⟩, oq3, hc3, hd3⟩)
                | (have hn0 : (pulN u i k w_ l) ≠ 0 := by simpa using c149
                   have hy := pull1_p (u := u) (i := i) (k := k) (s := ⟨w_, l, out⟩) hn0
                   exact ⟨by omega, o_153, ⟨out ++ [Pul.mk (u.streets.getD i default).id (drawI u i k) ((pulN u i k w_ l) : Int)], hy.symm.trans (congrArg (pull1 u i k) hτ), (pulRows_add out (Pul.mk (u.streets.getD i default).id (drawI u i k) ((pulN u i k w_ l) : Int))).symm⟩, oq3, hc3, hd3⟩)
            · refine SX.skip ?_
              refine blockQ.normal ?_
              refine thenQ.normal ?_
              refine SX.region ?_
              refine SXL.add rfl rfl (by omega) ?_
              refine SXL.move rfl ?_
              refine SXL.nil ?_
              refine thenQ.normal ?_
              refine ⟨(k + 1, _, _, _, _, _, ta3, _), MeetsW.mkP _ ⟨rfl, rfl, trivial⟩ ⟨rfl, rfl, rfl, rfl, rfl, rfl, rfl, rfl, rfl, rfl, rfl, rfl, trivial⟩ rfl, ?_, (show (u.streets.getD i default).draws.length - (k + 1) < (u.streets.getD i default).draws.length - k by omega)⟩
              first
                | (have hn0 : (pulN u i k w_ l) = 0 := by simpa using c149
                   have hy := pull1_z (u := u) (i := i) (k := k) (s := ⟨w_, l, out⟩) hn0
                   exact ⟨by omega, oo, ⟨out, hy.symm.trans (congrArg (pull1 u i k) hτ), rfl⟩, oq3, hc3, hd3⟩)
                | (have hn0 : (pulN u i k w_ l) ≠ 0 := by simpa using c149
                   have hy := pull1_p (u := u) (i := i) (k := k) (s := ⟨w_, l, out⟩) hn0
                   exact ⟨by omega, o_153, ⟨out ++ [Pul.mk (u.streets.getD i default).id (drawI u i k) ((pulN u i k w_ l) : Int)], hy.symm.trans (congrArg (pull1 u i k) hτ), (pulRows_add out (Pul.mk (u.streets.getD i default).id (drawI u i k) ((pulN u i k w_ l) : Int))).symm⟩, oq3, hc3, hd3⟩)
        · refine SX.exit ?_
          refine thenQ.exit ?_
          refine thenQ.exit ?_
          refine blockQ.exit ?_
          refine blockQ.normal ?_
          refine thenQ.normal ?_
          refine SX.region ?_
          refine SXL.add rfl rfl (by omega) ?_
          refine SXL.move rfl ?_
          refine SXL.nil ?_
          refine thenQ.normal ?_
          refine ⟨(i + 1, _, _, _, _, _, ta, _), MeetsW.mkP _ ⟨rfl, rfl, trivial⟩ ⟨rfl, rfl, rfl, rfl, rfl, rfl, rfl, trivial⟩ rfl, ⟨by omega, oo, ⟨out, ?_, rfl⟩, oq, ?_, ?_⟩, (show u.streets.length - (i + 1) < u.streets.length - i by omega)⟩
          all_goals obtain rfl : k = (u.streets.getD i default).draws.length := by omega
          · exact hτ
          · rw [hc2, uD_next]
          · intro j hj; rw [← dD_next]; exact hd j hj
      · refine SX.exit ?_
        refine thenQ.exit ?_
        refine thenQ.exit ?_
        refine blockQ.exit ?_
        refine thenQ.normal ?_
        refine SX.seq ?_
        refine SX.region ?_
        refine SXL.move rfl ?_
        refine SXL.assign rfl ?_
        refine SXL.assign rfl ?_
        refine SXL.nil ?_
        refine thenQ.normal ?_
        refine SX.ret ?_
        refine retQ.sel [5] rfl rfl ?_
        refine retQ.two (ResAt.tmp rfl) (ResAt.tmp rfl) ?_
        obtain rfl : i = u.streets.length := by omega
        obtain ⟨e1, e2⟩ := pu_some he hcan
        rw [e1, e2, ← hσ]
        obtain rfl := Ok.puls oo
        exact ⟨qo, oo, rfl, rfl⟩
end Go.Proofs.YtolcicaclflagaaDoor

/- The walks of functions. -/
namespace Go.Proofs.YtolcicaclflagaaDoor
open Go.X Go.S
theorem within_any (n lo hi : Int) (w : World) :
    CallsR Tryd.prog 101 [.int .i64 n, .int .i64 lo, .int .i64 hi] w (fun v _ => v = .bool (decide (Wi n lo hi))) := by
  refine CallsR.of_SX (n := 15) (rs := [.tmp 6]) Tryd.func101 rfl rfl rfl rfl ?_
  show SX _ _ _ ⟨[(0, .int .i64 n), (1, .int .i64 lo), (2, .int .i64 hi)], [], []⟩
  refine SX.seq ?_
  refine SX.region ?_
  refine SXL.assign rfl ?_
  refine SXL.nil ?_
  refine thenQ.normal ?_
  refine SX.seq ?_
  refine SX.region ?_
  refine SXL.move rfl ?_
  refine SXL.move rfl ?_
  refine SXL.geq rfl rfl ?_
  refine SXL.move rfl ?_
  apply SXL.andG 3
  case hl => exact rfl
  case hd => exact rfl
  case hg => exact rfl
  case ht =>
    intro g1
    refine SXL.move rfl ?_
    refine SXL.move rfl ?_
    refine SXL.leq rfl rfl ?_
    exact SXL.nil (segQ.mk (.skip rfl (.skip rfl (.skip rfl (.skip rfl (EnvSub.refl _))))) rfl rfl ⟨rfl, rfl⟩)
  case hf =>
    intro g1
    refine SXL.pass rfl rfl rfl ?_
    refine SXL.pass rfl rfl rfl ?_
    refine SXL.pass rfl rfl rfl ?_
    exact SXL.nil (segQ.mk (.skip rfl (.skip rfl (.skip rfl (.skip rfl (EnvSub.refl _))))) rfl rfl rfl)
  refine SXL.assign rfl ?_
  refine SXL.nil ?_
  refine thenQ.normal ?_
  refine SX.ret ?_
  refine retQ.one (ResAt.tmp rfl) ?_
  first | rfl | assumption
theorem spanned_any (a b lo hi : Int) (w : World) :
    CallsR Tryd.prog 102 [.agg ⟨[.int .i64 a, .int .i64 b]⟩, .int .i64 lo, .int .i64 hi] w (fun v _ => v = .bool (decide (Spn a b lo hi))) := by
  refine CallsR.of_SX (n := 20) (rs := [.tmp 6]) Tryd.func102 rfl rfl rfl rfl ?_
  show SX _ _ _ ⟨[(0, .agg ⟨[.int .i64 a, .int .i64 b]⟩), (1, .int .i64 lo), (2, .int .i64 hi)], [], []⟩
  refine SX.seq ?_
  refine SX.region ?_
  refine SXL.box rfl rfl ?_; intro b0
  refine SXL.assign rfl ?_
  refine SXL.nil ?_
  refine thenQ.normal ?_
  refine SX.seq ?_
  refine SX.region ?_
  refine SXL.fieldAddr fp_55_1 rfl ?_
  refine SXL.load1o 0 sh_3 rfl rfl rfl ?_
  refine SXL.move rfl ?_
  refine SXL.move rfl ?_
  refine SXL.call1 (.bool (decide (Wi b lo hi))) fn_101 rfl (fun w hI => within_any _ _ _ _) ?_
  refine SXL.move rfl ?_
  apply SXL.andG 6
  case hl => exact rfl
  case hd => exact rfl
  case hg => exact rfl
  case ht =>
    intro g1
    refine SXL.fieldAddr fp_55_0 rfl ?_
    refine SXL.load1o 0 sh_3 rfl rfl rfl ?_
    refine SXL.move rfl ?_
    refine SXL.fieldAddr fp_55_1 rfl ?_
    refine SXL.load1o 0 sh_3 rfl rfl rfl ?_
    refine SXL.call1 (.bool (decide (Wi a lo b))) fn_101 rfl (fun w hI => within_any _ _ _ _) ?_
    exact SXL.nil (segQ.mk (.skip rfl (.skip rfl (.skip rfl (.skip rfl (.skip rfl (.skip rfl (.skip rfl (EnvSub.refl _)))))))) rfl rfl ⟨rfl, rfl⟩)
  case hf =>
    intro g1
    refine SXL.pass rfl rfl rfl ?_
    refine SXL.pass rfl rfl rfl ?_
    refine SXL.pass rfl rfl rfl ?_
    refine SXL.pass rfl rfl rfl ?_
    refine SXL.pass rfl rfl rfl ?_
    refine SXL.pass rfl rfl rfl ?_
    exact SXL.nil (segQ.mk (.skip rfl (.skip rfl (.skip rfl (.skip rfl (.skip rfl (.skip rfl (.skip rfl (EnvSub.refl _)))))))) rfl rfl rfl)
  refine SXL.assign rfl ?_
  refine SXL.nil ?_
  refine thenQ.normal ?_
  refine SX.ret ?_
  refine retQ.one (ResAt.tmp rfl) ?_
  first | rfl | assumption
theorem reading_any (x : Rd) (weeks : Int) (hw : -9223372036854775807 ≤ weeks) (hw2 : weeks ≤ 9223372036854775807) (w : World) :
    CallsR Tryd.prog 103 [.agg ⟨x.cells⟩, .int .i64 weeks] w (fun v _ => v = .bool (decide (RdP x weeks))) := by
  refine CallsR.of_SX (n := 31) (rs := [.tmp 4]) Tryd.func103 rfl rfl rfl rfl ?_
  show SX _ _ _ ⟨[(0, .agg ⟨x.cells⟩), (1, .int .i64 weeks)], [], []⟩
  refine SX.seq ?_
  refine SX.region ?_
  refine SXL.box rfl rfl ?_; intro b0
  refine SXL.assign rfl ?_
  refine SXL.nil ?_
  refine thenQ.normal ?_
  refine SX.seq ?_
  refine SX.region ?_
  refine SXL.fieldAddr fp_131_0 rfl ?_
  refine SXL.load1o 0 sh_3 rfl rfl rfl ?_
  refine SXL.call1 (.bool (decide (Wi x.num 1 9999))) fn_101 rfl (fun w hI => within_any _ _ _ _) ?_
  refine SXL.move rfl ?_
  apply SXL.andG 5
  case hl => exact rfl
  case hd => exact rfl
  case hg => exact rfl
  case ht =>
    intro g1
    refine SXL.fieldAddr fp_131_1 rfl ?_
    refine SXL.load1o 0 sh_3 rfl rfl rfl ?_
    refine SXL.move rfl ?_
    refine SXL.sub rfl rfl (by omega) ?_
    refine SXL.call1 (.bool (decide (Wi x.wk 0 (weeks - 1)))) fn_101 rfl (fun w hI => within_any _ _ _ _) ?_
    exact SXL.nil (segQ.mk (.skip rfl (.skip rfl (.skip rfl (.skip rfl (.skip rfl (.skip rfl (EnvSub.refl _))))))) rfl rfl ⟨rfl, rfl⟩)
  case hf =>
    intro g1
    refine SXL.pass rfl rfl rfl ?_
    refine SXL.pass rfl rfl rfl ?_
    refine SXL.pass rfl rfl rfl ?_
    refine SXL.pass rfl rfl rfl ?_
    refine SXL.pass rfl rfl rfl ?_
    exact SXL.nil (segQ.mk (.skip rfl (.skip rfl (.skip rfl (.skip rfl (.skip rfl (.skip rfl (EnvSub.refl _))))))) rfl rfl rfl)
  refine SXL.move rfl ?_
  apply SXL.andG 3
  case hl => exact rfl
  case hd => exact rfl
  case hg => exact rfl
  case ht =>
    intro g2
    refine SXL.fieldAddr fp_131_2 rfl ?_
    refine SXL.load1o 0 sh_3 rfl rfl rfl ?_
    refine SXL.call1 (.bool (decide (Wi x.bu 1 40))) fn_101 rfl (fun w hI => within_any _ _ _ _) ?_
    exact SXL.nil (segQ.mk (.skip rfl (.skip rfl (.skip rfl (.skip rfl (EnvSub.refl _))))) rfl rfl ⟨rfl, rfl⟩)
  case hf =>
    intro g2
    refine SXL.pass rfl rfl rfl ?_
    refine SXL.pass rfl rfl rfl ?_
    refine SXL.pass rfl rfl rfl ?_
    exact SXL.nil (segQ.mk (.skip rfl (.skip rfl (.skip rfl (.skip rfl (EnvSub.refl _))))) rfl rfl rfl)
  refine SXL.move rfl ?_
  apply SXL.andG 3
  case hl => exact rfl
  case hd => exact rfl
  case hg => exact rfl
  case ht =>
    intro g3
    refine SXL.fieldAddr fp_131_3 rfl ?_
    refine SXL.loadNo 0 sh_55 rfl rfl rfl ?_
    refine SXL.call1 (.bool (decide (Spn x.s0 x.s1 0 99))) fn_102 rfl (fun w hI => spanned_any _ _ _ _ _) ?_
    exact SXL.nil (segQ.mk (.skip rfl (.skip rfl (.skip rfl (.skip rfl (EnvSub.refl _))))) rfl rfl ⟨rfl, rfl⟩)
  case hf =>
    intro g3
    refine SXL.pass rfl rfl rfl ?_
    refine SXL.pass rfl rfl rfl ?_
    refine SXL.pass rfl rfl rfl ?_
    exact SXL.nil (segQ.mk (.skip rfl (.skip rfl (.skip rfl (.skip rfl (EnvSub.refl _))))) rfl rfl rfl)
  refine SXL.move rfl ?_
  apply SXL.andG 4
  case hl => exact rfl
  case hd => exact rfl
  case hg => exact rfl
  case ht =>
    intro g4
    refine SXL.fieldAddr fp_131_3 rfl ?_
    refine SXL.fieldAddr fp_55_1 rfl ?_
    refine SXL.load1o 0 sh_3 rfl rfl rfl ?_
    refine SXL.gtr rfl rfl ?_
    exact SXL.nil (segQ.mk (.skip rfl (.skip rfl (.skip rfl (.skip rfl (.skip rfl (EnvSub.refl _)))))) rfl rfl ⟨rfl, rfl⟩)
  case hf =>
    intro g4
    refine SXL.pass rfl rfl rfl ?_
    refine SXL.pass rfl rfl rfl ?_
    refine SXL.pass rfl rfl rfl ?_
    refine SXL.pass rfl rfl rfl ?_
    exact SXL.nil (segQ.mk (.skip rfl (.skip rfl (.skip rfl (.skip rfl (.skip rfl (EnvSub.refl _)))))) rfl rfl rfl)
  refine SXL.assign rfl ?_
  refine SXL.nil ?_
  refine thenQ.normal ?_
  refine SX.ret ?_
  refine retQ.one (ResAt.tmp rfl) ?_
  first | rfl | assumption
theorem right_any (s : Sp) (bo ro : Option Addr) (bc rc : Nat) (x : Rd) (n : Int) (h1 : Spn s.a0 s.a1 1 600) (h2 : Spn x.s0 x.s1 0 99) (h3 : Wi x.bu 1 40) (h4 : Wi n 0 100) (w : World) :
    CallsR Tryd.prog 117 [.agg ⟨[.int .i64 s.weeks, .int .i64 s.most, .int .i64 s.fall, .int .i64 s.a0, .int .i64 s.a1, .int .i64 s.w0, .int .i64 s.w1, (.slice bo s.book.length bc), (.slice ro s.reads.length rc)]⟩, .agg ⟨x.cells⟩, .int .i64 n] w (fun v _ => v = .bool (decide (Right s x n))) := by
  have m1 := mul3 (a := x.s0) (b := s.a0) (c := n) (A := 99) (B := 600) (D := 100) (by omega) (by omega) (by omega) (by omega) (by omega) (by omega)
  have m2 := mul3 (a := x.s1) (b := s.a1) (c := n) (A := 99) (B := 600) (D := 100) (by omega) (by omega) (by omega) (by omega) (by omega) (by omega)
  refine CallsR.of_SX (n := 39) (rs := [.tmp 6]) Tryd.func117 rfl rfl rfl rfl ?_
  show SX _ _ _ ⟨[(0, .agg ⟨[.int .i64 s.weeks, .int .i64 s.most, .int .i64 s.fall, .int .i64 s.a0, .int .i64 s.a1, .int .i64 s.w0, .int .i64 s.w1, (.slice bo s.book.length bc), (.slice ro s.reads.length rc)]⟩), (1, .agg ⟨x.cells⟩), (2, .int .i64 n)], [], []⟩
  refine SX.seq ?_
  refine SX.region ?_
  refine SXL.box rfl rfl ?_; intro b0
  refine SXL.box rfl rfl ?_; intro b1
  refine SXL.assign rfl ?_
  refine SXL.nil ?_
  refine thenQ.normal ?_
  refine SX.seq ?_
  refine SX.region ?_
  refine SXL.move rfl ?_
  refine SXL.gtr rfl rfl ?_
  refine SXL.move rfl ?_
  apply SXL.andG 13
  case hl => exact rfl
  case hd => exact rfl
  case hg => exact rfl
  case ht =>
    intro g1
    refine SXL.fieldAddr fp_131_3 rfl ?_
    refine SXL.fieldAddr fp_55_0 rfl ?_
    refine SXL.load1o 1 sh_3 rfl rfl rfl ?_
    refine SXL.fieldAddr fp_68_3 rfl ?_
    refine SXL.fieldAddr fp_55_0 rfl ?_
    refine SXL.load1o 0 sh_3 rfl rfl rfl ?_
    refine SXL.mul rfl rfl (by omega) ?_
    refine SXL.move rfl ?_
    refine SXL.mul rfl rfl (by omega) ?_
    refine SXL.fieldAddr fp_131_2 rfl ?_
    refine SXL.load1o 1 sh_3 rfl rfl rfl ?_
    refine SXL.mul rfl rfl (by omega) ?_
    refine SXL.leq rfl rfl ?_
    exact SXL.nil (segQ.mk (.skip rfl (.skip rfl (.skip rfl (.skip rfl (.skip rfl (.skip rfl (.skip rfl (.skip rfl (.skip rfl (.skip rfl (.skip rfl (.skip rfl (.skip rfl (.skip rfl (EnvSub.refl _))))))))))))))) rfl rfl ⟨rfl, rfl⟩)
  case hf =>
    intro g1
    refine SXL.pass rfl rfl rfl ?_
    refine SXL.pass rfl rfl rfl ?_
    refine SXL.pass rfl rfl rfl ?_
    refine SXL.pass rfl rfl rfl ?_
    refine SXL.pass rfl rfl rfl ?_
    refine SXL.pass rfl rfl rfl ?_
    refine SXL.pass rfl rfl rfl ?_
    refine SXL.pass rfl rfl rfl ?_
    refine SXL.pass rfl rfl rfl ?_
    refine SXL.pass rfl rfl rfl ?_
    refine SXL.pass rfl rfl rfl ?_
    refine SXL.pass rfl rfl rfl ?_
    refine SXL.pass rfl rfl rfl ?_
    exact SXL.nil (segQ.mk (.skip rfl (.skip rfl (.skip rfl (.skip rfl (.skip rfl (.skip rfl (.skip rfl (.skip rfl (.skip rfl (.skip rfl (.skip rfl (.skip rfl (.skip rfl (.skip rfl (EnvSub.refl _))))))))))))))) rfl rfl rfl)
  refine SXL.move rfl ?_
  apply SXL.andG 13
  case hl => exact rfl
  case hd => exact rfl
  case hg => exact rfl
  case ht =>
    intro g2
    refine SXL.fieldAddr fp_131_2 rfl ?_
    refine SXL.load1o 1 sh_3 rfl rfl rfl ?_
    refine SXL.mul rfl rfl (by omega) ?_
    refine SXL.fieldAddr fp_131_3 rfl ?_
    refine SXL.fieldAddr fp_55_1 rfl ?_
    refine SXL.load1o 1 sh_3 rfl rfl rfl ?_
    refine SXL.fieldAddr fp_68_3 rfl ?_
    refine SXL.fieldAddr fp_55_1 rfl ?_
    refine SXL.load1o 0 sh_3 rfl rfl rfl ?_
    refine SXL.mul rfl rfl (by omega) ?_
    refine SXL.move rfl ?_
    refine SXL.mul rfl rfl (by omega) ?_
    refine SXL.leq rfl rfl ?_
    exact SXL.nil (segQ.mk (.skip rfl (.skip rfl (.skip rfl (.skip rfl (.skip rfl (.skip rfl (.skip rfl (.skip rfl (.skip rfl (.skip rfl (.skip rfl (.skip rfl (.skip rfl (.skip rfl (EnvSub.refl _))))))))))))))) rfl rfl ⟨rfl, rfl⟩)
  case hf =>
    intro g2
    refine SXL.pass rfl rfl rfl ?_
    refine SXL.pass rfl rfl rfl ?_
    refine SXL.pass rfl rfl rfl ?_
    refine SXL.pass rfl rfl rfl ?_
    refine SXL.pass rfl rfl rfl ?_
    refine SXL.pass rfl rfl rfl ?_
    refine SXL.pass rfl rfl rfl ?_
    refine SXL.pass rfl rfl rfl ?_
    refine SXL.pass rfl rfl rfl ?_
    refine SXL.pass rfl rfl rfl ?_
    refine SXL.pass rfl rfl rfl ?_
    refine SXL.pass rfl rfl rfl ?_
    refine SXL.pass rfl rfl rfl ?_
    exact SXL.nil (segQ.mk (.skip rfl (.skip rfl (.skip rfl (.skip rfl (.skip rfl (.skip rfl (.skip rfl (.skip rfl (.skip rfl (.skip rfl (.skip rfl (.skip rfl (.skip rfl (.skip rfl (EnvSub.refl _))))))))))))))) rfl rfl rfl)
  refine SXL.assign rfl ?_
  refine SXL.nil ?_
  refine thenQ.normal ?_
  refine SX.ret ?_
  refine retQ.one (ResAt.tmp rfl) ?_
  first | rfl | assumption
theorem spring_any (s : Sp) (bo ro : Option Addr) (bc rc : Nat) (w : World) (hs : SpAt w s bo ro) :
    CallsR Tryd.prog 87 [.agg ⟨[.int .i64 s.weeks, .int .i64 s.most, .int .i64 s.fall, .int .i64 s.a0, .int .i64 s.a1, .int .i64 s.w0, .int .i64 s.w1, (.slice bo s.book.length bc), (.slice ro s.reads.length rc)]⟩] w (fun v _ => v = .bool (decide (SpP s))) := by
  refine CallsR.of_SX (n := 104) (rs := [.tmp 2]) Tryd.func87 rfl rfl rfl rfl ?_
  show SX _ _ _ ⟨[(0, .agg ⟨[.int .i64 s.weeks, .int .i64 s.most, .int .i64 s.fall, .int .i64 s.a0, .int .i64 s.a1, .int .i64 s.w0, .int .i64 s.w1, (.slice bo s.book.length bc), (.slice ro s.reads.length rc)]⟩)], [], []⟩
  refine SX.seq ?_
  refine SX.region ?_
  refine SXL.box rfl rfl ?_; intro b0
  refine SXL.assign rfl ?_
  refine SXL.nil ?_
  refine thenQ.normal ?_
  refine SX.seq ?_
  refine SX.seq ?_
  refine SX.region ?_
  refine SXL.fieldAddr fp_68_0 rfl ?_
  refine SXL.load1o 0 sh_3 rfl rfl rfl ?_
  refine SXL.call1 (.bool (decide (Wi s.weeks 1 10))) fn_101 rfl (fun w hI => within_any _ _ _ _) ?_
  refine SXL.not rfl ?_
  refine SXL.move rfl ?_
  apply SXL.orG 4
  case hl => exact rfl
  case hd => exact rfl
  case hg => exact rfl
  case ht =>
    intro g1
    refine SXL.pass rfl rfl rfl ?_
    refine SXL.pass rfl rfl rfl ?_
    refine SXL.pass rfl rfl rfl ?_
    refine SXL.pass rfl rfl rfl ?_
    exact SXL.nil (segQ.mk (.skip rfl (.skip rfl (.skip rfl (.skip rfl (.skip rfl (EnvSub.refl _)))))) rfl rfl rfl)
  case hf =>
    intro g1
    refine SXL.fieldAddr fp_68_1 rfl ?_
    refine SXL.load1o 0 sh_3 rfl rfl rfl ?_
    refine SXL.call1 (.bool (decide (Wi s.most 0 100))) fn_101 rfl (fun w hI => within_any _ _ _ _) ?_
    refine SXL.not rfl ?_
    exact SXL.nil (segQ.mk (.skip rfl (.skip rfl (.skip rfl (.skip rfl (.skip rfl (EnvSub.refl _)))))) rfl rfl ⟨rfl, rfl⟩)
  refine SXL.move rfl ?_
  apply SXL.orG 4
  case hl => exact rfl
  case hd => exact rfl
  case hg => exact rfl
  case ht =>
    intro g2
    refine SXL.pass rfl rfl rfl ?_
    refine SXL.pass rfl rfl rfl ?_
    refine SXL.pass rfl rfl rfl ?_
    refine SXL.pass rfl rfl rfl ?_
    exact SXL.nil (segQ.mk (.skip rfl (.skip rfl (.skip rfl (.skip rfl (.skip rfl (EnvSub.refl _)))))) rfl rfl rfl)
  case hf =>
    intro g2
    refine SXL.fieldAddr fp_68_2 rfl ?_
    refine SXL.load1o 0 sh_3 rfl rfl rfl ?_
    refine SXL.call1 (.bool (decide (Wi s.fall 0 100))) fn_101 rfl (fun w hI => within_any _ _ _ _) ?_
    refine SXL.not rfl ?_
    exact SXL.nil (segQ.mk (.skip rfl (.skip rfl (.skip rfl (.skip rfl (.skip rfl (EnvSub.refl _)))))) rfl rfl ⟨rfl, rfl⟩)
  refine SXL.move rfl ?_
  apply SXL.orG 4
  case hl => exact rfl
  case hd => exact rfl
  case hg => exact rfl
  case ht =>
    intro g3
    refine SXL.pass rfl rfl rfl ?_
    refine SXL.pass rfl rfl rfl ?_
    refine SXL.pass rfl rfl rfl ?_
    refine SXL.pass rfl rfl rfl ?_
    exact SXL.nil (segQ.mk (.skip rfl (.skip rfl (.skip rfl (.skip rfl (.skip rfl (EnvSub.refl _)))))) rfl rfl rfl)
  case hf =>
    intro g3
    refine SXL.fieldAddr fp_68_3 rfl ?_
    refine SXL.loadNo 0 sh_55 rfl rfl rfl ?_
    refine SXL.call1 (.bool (decide (Spn s.a0 s.a1 1 600))) fn_102 rfl (fun w hI => spanned_any _ _ _ _ _) ?_
    refine SXL.not rfl ?_
    exact SXL.nil (segQ.mk (.skip rfl (.skip rfl (.skip rfl (.skip rfl (.skip rfl (EnvSub.refl _)))))) rfl rfl ⟨rfl, rfl⟩)
  refine SXL.move rfl ?_
  apply SXL.orG 4
  case hl => exact rfl
  case hd => exact rfl
  case hg => exact rfl
  case ht =>
    intro g4
    refine SXL.pass rfl rfl rfl ?_
    refine SXL.pass rfl rfl rfl ?_
    refine SXL.pass rfl rfl rfl ?_
    refine SXL.pass rfl rfl rfl ?_
    exact SXL.nil (segQ.mk (.skip rfl (.skip rfl (.skip rfl (.skip rfl (.skip rfl (EnvSub.refl _)))))) rfl rfl rfl)
  case hf =>
    intro g4
    refine SXL.fieldAddr fp_68_4 rfl ?_
    refine SXL.loadNo 0 sh_55 rfl rfl rfl ?_
    refine SXL.call1 (.bool (decide (Spn s.w0 s.w1 0 20))) fn_102 rfl (fun w hI => spanned_any _ _ _ _ _) ?_
    refine SXL.not rfl ?_
    exact SXL.nil (segQ.mk (.skip rfl (.skip rfl (.skip rfl (.skip rfl (.skip rfl (EnvSub.refl _)))))) rfl rfl ⟨rfl, rfl⟩)
  refine SXL.move rfl ?_
  apply SXL.orG 4
  case hl => exact rfl
  case hd => exact rfl
  case hg => exact rfl
  case ht =>
    intro g5
    refine SXL.pass rfl rfl rfl ?_
    refine SXL.pass rfl rfl rfl ?_
    refine SXL.pass rfl rfl rfl ?_
    refine SXL.pass rfl rfl rfl ?_
    exact SXL.nil (segQ.mk (.skip rfl (.skip rfl (.skip rfl (.skip rfl (.skip rfl (EnvSub.refl _)))))) rfl rfl rfl)
  case hf =>
    intro g5
    refine SXL.fieldAddr fp_68_5 rfl ?_
    refine SXL.load1o 0 sh_65 rfl rfl rfl ?_
    refine SXL.len is_65 rfl ?_
    refine SXL.gtr rfl rfl ?_
    exact SXL.nil (segQ.mk (.skip rfl (.skip rfl (.skip rfl (.skip rfl (.skip rfl (EnvSub.refl _)))))) rfl rfl ⟨rfl, rfl⟩)
  refine SXL.move rfl ?_
  apply SXL.orG 4
  case hl => exact rfl
  case hd => exact rfl
  case hg => exact rfl
  case ht =>
    intro c0
    refine SXL.pass rfl rfl rfl ?_
    refine SXL.pass rfl rfl rfl ?_
    refine SXL.pass rfl rfl rfl ?_
    refine SXL.pass rfl rfl rfl ?_
    exact SXL.nil (segQ.mk (.skip rfl (.skip rfl (.skip rfl (.skip rfl (.skip rfl (EnvSub.refl _)))))) rfl rfl rfl)
  case hf =>
    intro c0
    refine SXL.fieldAddr fp_68_6 rfl ?_
    refine SXL.load1o 0 sh_66 rfl rfl rfl ?_
    refine SXL.len is_66 rfl ?_
    refine SXL.gtr rfl rfl ?_
    exact SXL.nil (segQ.mk (.skip rfl (.skip rfl (.skip rfl (.skip rfl (.skip rfl (EnvSub.refl _)))))) rfl rfl ⟨rfl, rfl⟩)
  refine SXL.nil ?_
  refine thenQ.normal ?_
  refine SX.condP rfl (fun c0 => ?_) (fun c0 => ?_)
  · refine SX.seq ?_
    refine SX.region ?_
    refine SXL.assign rfl ?_
    refine SXL.nil ?_
    refine thenQ.normal ?_
    refine SX.ret ?_
    refine thenQ.ret ?_
    refine retQ.one (ResAt.tmp rfl) ?_
    exact congrArg Value.bool (decide_eq_false (by intro h; have h1 := h.1; unfold HeadP at h1; omega)).symm
  · refine SX.skip ?_
    refine thenQ.normal ?_
    refine SX.seq ?_
    refine SX.seq ?_
    refine SX.region ?_
    refine SXL.fieldAddr fp_68_5 rfl ?_
    refine SXL.load1o 0 sh_65 rfl rfl rfl ?_
    refine SXL.len is_65 rfl ?_
    refine SXL.move rfl ?_
    refine SXL.nil ?_
    refine thenQ.normal ?_
    refine SX.block ?_
    refine SX.loopG (α := Nat) [1, 2, 48, 49] rfl (fun k => [(50, .int .i64 (k : Int))]) (fun k => []) (fun k => k ≤ s.book.length ∧ ∀ i, i < k → (h : i < s.book.length) → LnP s.book[i] s.weeks) (fun k => s.book.length - k) 0 ⟨Nat.zero_le _, fun _ h => absurd h (Nat.not_lt_zero _)⟩ ⟨rfl, trivial⟩ rfl ?_
    rintro k ⟨hkl, hall⟩
    refine SX.seq ?_
    refine SX.region ?_
    refine SXL.lss rfl rfl ?_
    refine SXL.nil ?_
    refine thenQ.normal ?_
    refine SX.seq ?_
    refine SX.condP rfl (fun c1 => ?_) (fun c1 => ?_)
    · refine SX.skip ?_
      refine thenQ.normal ?_
      refine SX.seq ?_
      refine SX.block ?_
      refine SX.seq ?_
      have hk : k < s.book.length := by omega
      obtain ⟨b, o, ha, hm⟩ := hs.line hk
      refine SX.region ?_
      refine SXL.indexR el_65 rfl rfl ha (by omega) ?_
      refine SXL.loadN sh_129 rfl (hm _) rfl ?_
      refine SXL.alloc zp_129 ?_; intro b1
      refine SXL.store 1 sz_129 rfl rfl rfl rfl rfl rfl ?_
      refine SXL.nil ?_
      refine thenQ.normal ?_
      refine SX.seq ?_
      refine SX.region ?_
      refine SXL.fieldAddr fp_129_0 rfl ?_
      refine SXL.loadNo 1 sh_55 rfl rfl rfl ?_
      refine SXL.call1 (.bool (decide (Spn s.book[k].r0 s.book[k].r1 0 20))) fn_102 rfl (fun w hI => spanned_any _ _ _ _ _) ?_
      refine SXL.not rfl ?_
      refine SXL.move rfl ?_
      apply SXL.orG 7
      case hl => exact rfl
      case hd => exact rfl
      case hg => exact rfl
      case ht =>
        intro g9
        refine SXL.pass rfl rfl rfl ?_
        refine SXL.pass rfl rfl rfl ?_
        refine SXL.pass rfl rfl rfl ?_
        refine SXL.pass rfl rfl rfl ?_
        refine SXL.pass rfl rfl rfl ?_
        refine SXL.pass rfl rfl rfl ?_
        refine SXL.pass rfl rfl rfl ?_
        exact SXL.nil (segQ.mk (.skip rfl (.skip rfl (.skip rfl (.skip rfl (.skip rfl (.skip rfl (.skip rfl (.skip rfl (EnvSub.refl _))))))))) rfl rfl rfl)
      case hf =>
        intro g9
        refine SXL.fieldAddr fp_129_1 rfl ?_
        refine SXL.load1o 1 sh_3 rfl rfl rfl ?_
        refine SXL.fieldAddr fp_68_0 rfl ?_
        refine SXL.load1o 0 sh_3 rfl rfl rfl ?_
        refine SXL.sub rfl rfl (by omega) ?_
        refine SXL.call1 (.bool (decide (Wi s.book[k].wk 0 (s.weeks - 1)))) fn_101 rfl (fun w hI => within_any _ _ _ _) ?_
        refine SXL.not rfl ?_
        exact SXL.nil (segQ.mk (.skip rfl (.skip rfl (.skip rfl (.skip rfl (.skip rfl (.skip rfl (.skip rfl (.skip rfl (EnvSub.refl _))))))))) rfl rfl ⟨rfl, rfl⟩)
      refine SXL.move rfl ?_
      apply SXL.orG 4
      case hl => exact rfl
      case hd => exact rfl
      case hg => exact rfl
      case ht =>
        intro c2
        refine SXL.pass rfl rfl rfl ?_
        refine SXL.pass rfl rfl rfl ?_
        refine SXL.pass rfl rfl rfl ?_
        refine SXL.pass rfl rfl rfl ?_
        exact SXL.nil (segQ.mk (.skip rfl (.skip rfl (.skip rfl (.skip rfl (.skip rfl (EnvSub.refl _)))))) rfl rfl rfl)
      case hf =>
        intro c2
        refine SXL.fieldAddr fp_129_2 rfl ?_
        refine SXL.loadNo 1 sh_55 rfl rfl rfl ?_
        refine SXL.call1 (.bool (decide (Spn s.book[k].g0 s.book[k].g1 0 100))) fn_102 rfl (fun w hI => spanned_any _ _ _ _ _) ?_
        refine SXL.not rfl ?_
        exact SXL.nil (segQ.mk (.skip rfl (.skip rfl (.skip rfl (.skip rfl (.skip rfl (EnvSub.refl _)))))) rfl rfl ⟨rfl, rfl⟩)
      refine SXL.nil ?_
      refine thenQ.normal ?_
      refine SX.condP rfl (fun c2 => ?_) (fun c2 => ?_)
      · refine SX.seq ?_
        refine SX.region ?_
        refine SXL.assign rfl ?_
        refine SXL.nil ?_
        refine thenQ.normal ?_
        refine SX.ret ?_
        refine blockQ.ret ?_
        refine thenQ.ret ?_
        refine thenQ.ret ?_
        refine blockQ.ret ?_
        refine thenQ.ret ?_
        refine retQ.one (ResAt.tmp rfl) ?_
        exact congrArg Value.bool (decide_eq_false (by intro h; have h1 := h.2.1 k hk; omega)).symm
      · refine SX.skip ?_
        refine blockQ.normal ?_
        refine thenQ.normal ?_
        refine SX.region ?_
        refine SXL.add rfl rfl (by omega) ?_
        refine SXL.move rfl ?_
        refine SXL.nil ?_
        refine thenQ.normal ?_
        refine ⟨k + 1, Meets.mk _ ⟨rfl, trivial⟩ ⟨rfl, rfl, rfl, rfl, trivial⟩ rfl, ?_, by omega⟩
        refine ⟨by omega, fun i hi h => ?_⟩
        by_cases hik : i = k
        · subst hik; omega
        · exact hall i (by omega) h
    · refine SX.exit ?_
      refine thenQ.exit ?_
      refine thenQ.exit ?_
      refine blockQ.exit ?_
      refine thenQ.normal ?_
      refine SX.seq ?_
      refine SX.seq ?_
      refine SX.region ?_
      refine SXL.fieldAddr fp_68_6 rfl ?_
      refine SXL.load1o 0 sh_66 rfl rfl rfl ?_
      refine SXL.len is_66 rfl ?_
      refine SXL.move rfl ?_
      refine SXL.nil ?_
      refine thenQ.normal ?_
      refine SX.block ?_
      refine SX.loopG (α := Nat) [1, 2, 75, 76] rfl (fun k => [(77, .int .i64 (k : Int))]) (fun k => []) (fun k => k ≤ s.reads.length ∧ ∀ i, i < k → (h : i < s.reads.length) → RdP s.reads[i] s.weeks ∧ (0 < i → (s.reads.getD (i - 1) default).num < s.reads[i].num)) (fun k => s.reads.length - k) 0 ⟨Nat.zero_le _, fun _ h => absurd h (Nat.not_lt_zero _)⟩ ⟨rfl, trivial⟩ rfl ?_
      rintro k ⟨hkl2, hall2⟩
      refine SX.seq ?_
      refine SX.region ?_
      refine SXL.lss rfl rfl ?_
      refine SXL.nil ?_
      refine thenQ.normal ?_
      refine SX.seq ?_
      refine SX.condP rfl (fun c3 => ?_) (fun c3 => ?_)
      · refine SX.skip ?_
        refine thenQ.normal ?_
        refine SX.seq ?_
        refine SX.block ?_
        refine SX.seq ?_
        have hk : k < s.reads.length := by omega
        obtain ⟨b, o, ha, hm⟩ := hs.read hk
        refine SX.region ?_
        refine SXL.move rfl ?_
        refine SXL.indexR el_66 rfl rfl ha (by omega) ?_
        refine SXL.loadN sh_131 rfl (hm _) rfl ?_
        refine SXL.alloc zp_131 ?_; intro b1
        refine SXL.assign rfl ?_
        refine SXL.store 1 sz_131 rfl rfl rfl rfl rfl rfl ?_
        refine SXL.nil ?_
        refine thenQ.normal ?_
        refine SX.seq ?_
        refine SX.draw 21 (by kernel_rfl) (by kernel_rfl) {} ?_
        refine SXA.take 0 21 rfl (by kernel_rfl) rfl ?_
        refine SXL.loadNo 1 sh_131 rfl rfl rfl ?_
        refine SXL.fieldAddr fp_68_0 rfl ?_
        refine SXL.load1o 0 sh_3 rfl rfl rfl ?_
        refine SXL.call1 (.bool (decide (RdP s.reads[k] s.weeks))) fn_103 rfl (fun w hI => reading_any _ _ (by omega) (by omega) _) ?_
        refine SXL.not rfl ?_
        refine SXL.move rfl ?_
        apply SXL.orG 14
        case hl => exact rfl
        case hd => exact rfl
        case hg => exact rfl
        case ht =>
          intro c4
          refine SXL.pass rfl rfl rfl ?_
          refine SXL.pass rfl rfl rfl ?_
          refine SXL.pass rfl rfl rfl ?_
          refine SXL.pass rfl rfl rfl ?_
          refine SXL.pass rfl rfl rfl ?_
          refine SXL.pass rfl rfl rfl ?_
          refine SXL.pass rfl rfl rfl ?_
          refine SXL.pass rfl rfl rfl ?_
          refine SXL.pass rfl rfl rfl ?_
          refine SXL.pass rfl rfl rfl ?_
          refine SXL.pass rfl rfl rfl ?_
          refine SXL.pass rfl rfl rfl ?_
          refine SXL.pass rfl rfl rfl ?_
          refine SXL.pass rfl rfl rfl ?_
          exact SXL.nil (segQ.mk (.skip rfl (.skip rfl (.skip rfl (.skip rfl (.skip rfl (.skip rfl (.skip rfl (.skip rfl (.skip rfl (.skip rfl (.skip rfl (.skip rfl (.skip rfl (.skip rfl (.skip rfl (EnvSub.refl _)))))))))))))))) rfl rfl rfl)
        case hf =>
          intro c4
          refine SXL.move rfl ?_
          refine SXL.gtr rfl rfl ?_
          refine SXL.move rfl ?_
          apply SXL.andG 10
          case hl => exact rfl
          case hd => exact rfl
          case hg => exact rfl
          case ht =>
            intro g14
            obtain ⟨b2, o2, ha2, hm2⟩ := hs.readI (i := (k : Int) - 1) (by omega) (by omega)
            refine SXL.fieldAddr fp_68_6 rfl ?_
            refine SXL.load1o 0 sh_66 rfl rfl rfl ?_
            refine SXL.move rfl ?_
            refine SXL.sub rfl rfl (by omega) ?_
            refine SXL.indexR el_66 rfl rfl ha2 (by omega) ?_
            refine SXL.fieldAddr fp_131_0 rfl ?_
            refine SXL.load1 sh_3 rfl ((hm2 _).sub (j := 0) (k := 1) rfl) ?_
            refine SXL.fieldAddr fp_131_0 rfl ?_
            refine SXL.load1o 1 sh_3 rfl rfl rfl ?_
            refine SXL.geq rfl rfl ?_
            exact SXL.nil (segQ.mk (.skip rfl (.skip rfl (.skip rfl (.skip rfl (.skip rfl (.skip rfl (.skip rfl (.skip rfl (.skip rfl (.skip rfl (.skip rfl (EnvSub.refl _)))))))))))) rfl rfl ⟨rfl, rfl⟩)
          case hf =>
            intro g14
            refine SXL.pass rfl rfl rfl ?_
            refine SXL.pass rfl rfl rfl ?_
            refine SXL.pass rfl rfl rfl ?_
            refine SXL.pass rfl rfl rfl ?_
            refine SXL.pass rfl rfl rfl ?_
            refine SXL.pass rfl rfl rfl ?_
            refine SXL.pass rfl rfl rfl ?_
            refine SXL.pass rfl rfl rfl ?_
            refine SXL.pass rfl rfl rfl ?_
            refine SXL.pass rfl rfl rfl ?_
            exact SXL.nil (segQ.mk (.skip rfl (.skip rfl (.skip rfl (.skip rfl (.skip rfl (.skip rfl (.skip rfl (.skip rfl (.skip rfl (.skip rfl (.skip rfl (EnvSub.refl _)))))))))))) rfl rfl rfl)
          exact SXL.nil (segQ.mk (.skip rfl (.skip rfl (.skip rfl (.skip rfl (EnvSub.refl _))))) rfl rfl ⟨rfl, rfl⟩)
        refine SXL.nil ⟨rfl, rfl, rfl, ?_⟩
        refine SXA.done (by kernel_rfl) ?_
        refine SXL.nil ?_
        refine thenQ.normal ?_
        refine SX.condP rfl (fun c4 => ?_) (fun c4 => ?_)
        · refine SX.seq ?_
          refine SX.region ?_
          refine SXL.assign rfl ?_
          refine SXL.nil ?_
          refine thenQ.normal ?_
          refine SX.ret ?_
          refine blockQ.ret ?_
          refine thenQ.ret ?_
          refine thenQ.ret ?_
          refine blockQ.ret ?_
          refine thenQ.ret ?_
          refine retQ.one (ResAt.tmp rfl) ?_
          exact congrArg Value.bool (decide_eq_false (by intro h; have h1 := h.2.2 k hk; have e : ((k : Int) - 1).toNat = k - 1 := (by omega); rw [e] at c4; omega)).symm
        · refine SX.skip ?_
          refine blockQ.normal ?_
          refine thenQ.normal ?_
          refine SX.region ?_
          refine SXL.add rfl rfl (by omega) ?_
          refine SXL.move rfl ?_
          refine SXL.nil ?_
          refine thenQ.normal ?_
          refine ⟨k + 1, Meets.mk _ ⟨rfl, trivial⟩ ⟨rfl, rfl, rfl, rfl, trivial⟩ rfl, ?_, by omega⟩
          refine ⟨by omega, fun i hi h => ?_⟩
          by_cases hik : i = k
          · subst hik
            have e : ((i : Int) - 1).toNat = i - 1 := by omega
            rw [e] at c4
            omega
          · exact hall2 i (by omega) h
      · refine SX.exit ?_
        refine thenQ.exit ?_
        refine thenQ.exit ?_
        refine blockQ.exit ?_
        refine thenQ.normal ?_
        refine SX.seq ?_
        refine SX.region ?_
        refine SXL.assign rfl ?_
        refine SXL.nil ?_
        refine thenQ.normal ?_
        refine SX.ret ?_
        refine retQ.one (ResAt.tmp rfl) ?_
        exact congrArg Value.bool (decide_eq_true (p := SpP s) ⟨by unfold HeadP; omega, fun i h => hall i (by omega) h, fun i h => hall2 i (by omega) h⟩).symm
end Go.Proofs.YtolcicaclflagaaDoor
