/- SpringReads: whatever the input, the law returns true and the input reads as it did. Its condition: the package's variables are as the program's text lays them (the card ties them). -/
import Derived.Test.YtknflipongbngaaDoorMSpringReads3
import Derived.SevenTiedAt
/- The walks of functions. -/
namespace Go.Proofs.YtknflipongbngaaDoor
open Go.X Go.S
theorem hull_any (A : List (List Int)) (hA : ∀ x ∈ A, x.length = 20) (hne : 0 < A.length) (hmx : A.length ≤ 21) (week : Nat) (hw : week < 10) (ao : Option Addr) (c : Nat) (w : World) (h : RowsAt w ao 20 (rowsI A)) :
    CallsR Tryd.prog 79 [.slice ao A.length c, .int .i64 ((week : Int))] w (fun v _ => v = .agg ⟨[.int .i64 ((hLo A week)), .int .i64 ((hHi A week))]⟩) := by
  refine CallsR.of_SX (n := 44) (rs := [.cell 4 23]) Tryd.func79 rfl rfl rfl rfl ?_
  show SX _ _ _ ⟨[(0, .slice ao A.length c), (1, .int .i64 ((week : Int)))], [], []⟩
  refine SX.seq ?_
  refine SX.region ?_
  refine SXL.alloc zp_23 ?_; intro b0
  refine SXL.nil ?_
  refine thenQ.normal ?_
  refine SX.seq ?_
  obtain ⟨b, o, ha, hm⟩ := rowI h hne
  have hl := len20 hA hne
  refine SX.draw 14 (by kernel_rfl) (by kernel_rfl) {} ?_
  refine SXA.take 0 13 rfl (by kernel_rfl) rfl ?_
  refine SXL.move rfl ?_
  refine SXL.move rfl ?_
  refine SXL.indexR el_125 rfl rfl ha (by omega) ?_
  refine SXL.fieldAddr fp_156_0 rfl ?_
  refine SXL.indexA el_154 rfl rfl (by omega) ?_
  refine SXL.load1 sh_3 rfl (Mem.at (hm _) (intsAtX (i := week) rfl (by omega)) (by simp <;> omega)) ?_
  refine SXL.move rfl ?_
  refine SXL.move rfl ?_
  refine SXL.indexR el_125 rfl rfl ha (by omega) ?_
  refine SXL.fieldAddr fp_156_1 rfl ?_
  refine SXL.indexA el_154 rfl rfl (by omega) ?_
  refine SXL.load1 sh_3 rfl (Mem.at (hm _) (intsAtX (i := 10 + week) rfl (by omega)) (by simp <;> omega)) ?_
  refine SXL.buildS pl_23 zp_23 rfl rfl ?_
  refine SXL.nil ⟨rfl, rfl, rfl, ?_⟩
  refine SXA.all [13] (by kernel_rfl) rfl ⟨⟨?_, rfl⟩, trivial⟩
  refine (show SXL _ _ [_] _ _ from ?_)
  refine SXL.alloc zp_23 ?_; intro b1
  refine SXL.nil (stepQ.mk _ rfl rfl ?_)
  refine SXA.done (by kernel_rfl) ?_
  refine SXL.store 1 sz_23 rfl rfl rfl rfl rfl rfl ?_
  refine SXL.nil ?_
  refine thenQ.normal ?_
  refine SX.seq ?_
  refine SX.seq ?_
  refine SX.region ?_
  refine SXL.move rfl ?_
  refine SXL.len is_125 rfl ?_
  refine SXL.move rfl ?_
  refine SXL.nil ?_
  refine thenQ.normal ?_
  refine SX.block ?_
  refine SX.loopG (α := Nat) [1, 4, 5, 21, 22] rfl (fun k => [(23, .int .i64 ((k : Int)))]) (fun k => [(1, (b1, .cells ⟨[.int .i64 (hLoTo A week k), .int .i64 (hHiTo A week k)]⟩ 23 (0, 0)))]) (fun k => k ≤ A.length) (fun k => A.length - k) 0 (Nat.zero_le _) ⟨rfl, trivial⟩ rfl ?_
  rintro k hk
  refine SX.seq ?_
  refine SX.region ?_
  refine SXL.lss rfl rfl ?_
  refine SXL.nil ?_
  refine thenQ.normal ?_
  refine SX.seq ?_
  refine SX.condP rfl (fun c1 => ?_) (fun c1 => ?_)
  · refine SX.skip ?_
    refine thenQ.normal ?_
    refine SX.seq ?_
    refine SX.block ?_
    refine SX.seq ?_
    obtain ⟨b2, o2, ha2, hm2⟩ := rowI h (i := k) (by omega)
    have hl2 := len20 hA (i := k) (by omega)
    refine SX.region ?_
    refine SXL.indexR el_125 rfl rfl ha2 (by omega) ?_
    refine SXL.loadN sh_156 rfl (hm2 _) (by simp only [length_ints, hl2]) ?_
    refine SXL.alloc zp_156 ?_; intro b2
    refine SXL.store 2 sz_156 rfl rfl rfl rfl (by simp only [length_ints, hl2]) (putAt_all _ _ (by simp only [length_ints, hl2]; rfl)) ?_ (ints_isOne _)
    refine SXL.nil ?_
    refine thenQ.normal ?_
    refine SX.draw 15 (by kernel_rfl) (by kernel_rfl) {} ?_
    refine SXA.take 0 15 rfl (by kernel_rfl) rfl ?_
    refine SXL.fieldAddr fp_23_0 rfl ?_
    refine SXL.load1o 1 sh_3 rfl rfl rfl ?_
    refine SXL.move rfl ?_
    refine SXL.fieldAddr fp_156_0 rfl ?_
    refine SXL.indexA el_154 rfl rfl (by omega) ?_
    refine SXL.load1o 2 sh_3 rfl rfl (intsAtX (i := week) (by simp <;> omega) (by omega)) ?_
    refine SXL.min rfl rfl ?_
    refine SXL.fieldAddr fp_23_1 rfl ?_
    refine SXL.load1o 1 sh_3 rfl rfl rfl ?_
    refine SXL.move rfl ?_
    refine SXL.fieldAddr fp_156_1 rfl ?_
    refine SXL.indexA el_154 rfl rfl (by omega) ?_
    refine SXL.load1o 2 sh_3 rfl rfl (intsAtX (i := 10 + week) (by simp <;> omega) (by omega)) ?_
    refine SXL.max rfl rfl ?_
    refine SXL.buildS pl_23 zp_23 rfl rfl ?_
    refine SXL.nil ⟨rfl, rfl, rfl, ?_⟩
    refine SXA.done (by kernel_rfl) ?_
    refine SXL.store 1 sz_23 rfl rfl rfl rfl rfl rfl ?_
    refine SXL.nil ?_
    refine blockQ.normal ?_
    refine thenQ.normal ?_
    refine SX.region ?_
    refine SXL.add rfl rfl (by omega) ?_
    refine SXL.move rfl ?_
    refine SXL.nil ?_
    refine thenQ.normal ?_
    refine ⟨k + 1, Meets.mk _ ⟨rfl, trivial⟩ ⟨rfl, rfl, rfl, rfl, rfl, trivial⟩ rfl, (by omega), (by omega)⟩
  · refine SX.exit ?_
    refine thenQ.exit ?_
    refine thenQ.exit ?_
    refine blockQ.exit ?_
    refine thenQ.normal ?_
    refine SX.seq ?_
    obtain rfl : k = A.length := by omega
    refine SX.region ?_
    refine SXL.loadNo 1 sh_23 rfl rfl rfl ?_
    refine SXL.store 0 sz_23 rfl rfl rfl rfl rfl rfl ?_
    refine SXL.nil ?_
    refine thenQ.normal ?_
    refine SX.ret ?_
    refine retQ.one (ResAt.cellNo 0 sh_23 rfl rfl rfl) ?_
    first | rfl | assumption
theorem rains_any (s : Sp) (bo ro : Option Addr) (bc rc : Nat) (hv : SpP s) (w : World) (hs : SpAt w s bo ro) :
    CallsR Tryd.prog 111 [.agg ⟨[.int .i64 s.weeks, .int .i64 s.most, .int .i64 s.fall, .int .i64 s.a0, .int .i64 s.a1, .int .i64 s.w0, .int .i64 s.w1, (.slice bo s.book.length bc), (.slice ro s.reads.length rc)]⟩] w (RnR (rnsL s (baseL s)) (lvsL s (baseL s) (rnsL s (baseL s)))) := by
  refine CallsR.of_SX (n := 10) (rs := [.tmp 2, .tmp 3]) Tryd.func111 rfl rfl rfl rfl ?_
  show SX _ _ _ ⟨[(0, .agg ⟨[.int .i64 s.weeks, .int .i64 s.most, .int .i64 s.fall, .int .i64 s.a0, .int .i64 s.a1, .int .i64 s.w0, .int .i64 s.w1, (.slice bo s.book.length bc), (.slice ro s.reads.length rc)]⟩)], [], []⟩
  refine SX.seq ?_
  refine SX.region ?_
  refine SXL.box rfl rfl ?_; intro b0
  refine SXL.assign rfl ?_
  refine SXL.assign rfl ?_
  refine SXL.nil ?_
  refine thenQ.normal ?_
  refine SX.seq ?_
  refine SX.draw 8 (by kernel_rfl) (by kernel_rfl) {} ?_
  refine SXA.take 0 3 rfl (by kernel_rfl) rfl ?_
  refine SXL.loadNo 0 sh_27 rfl rfl rfl ?_
  refine SXL.loadNo 0 sh_27 rfl rfl rfl ?_
  refine SXL.call1 (.agg ⟨ints (baseL s)⟩) fn_113 rfl (fun w hI => base_any s bo ro _ _ hv _ (hs.inv hI)) ?_
  refine SXL.nil ⟨rfl, rfl, rfl, ?_⟩
  refine SXA.all [3] (by kernel_rfl) rfl ⟨⟨?_, rfl⟩, trivial⟩
  refine (show SXL _ _ [_] _ _ from ?_)
  refine SXL.callF (RnR (rnsL s (baseL s)) (lvsL s (baseL s) (rnsL s (baseL s)))) fn_129 rfl (fun w hI => rained_any s bo ro _ _ _ (baseL_Bd hv) hv _ (hs.inv hI)) ?_; rintro _ _ ⟨r1, r2, o1, o2, rfl, rfl⟩
  refine SXL.nil (stepQ.mk _ rfl rfl ?_)
  refine SXA.take 4 4 rfl (by kernel_rfl) rfl ?_
  refine SXL.extract rfl rfl ?_
  refine SXL.extract rfl rfl ?_
  refine SXL.assign rfl ?_
  refine SXL.assign rfl ?_
  refine SXL.nil ⟨rfl, rfl, rfl, ?_⟩
  refine SXA.done (by kernel_rfl) ?_
  refine SXL.nil ?_
  refine thenQ.normal ?_
  refine SX.ret ?_
  refine retQ.sel [1, 2] rfl rfl ?_
  refine retQ.two (ResAt.tmp rfl) (ResAt.tmp rfl) ?_
  exact ⟨r1, r2, o1, o2, rfl, rfl⟩
theorem true_any (s : Sp) (bo ro : Option Addr) (bc rc : Nat) (hv : SpP s) (w : World) (hs : SpAt w s bo ro) :
    CallsR Tryd.prog 60 [.agg ⟨[.int .i64 s.weeks, .int .i64 s.most, .int .i64 s.fall, .int .i64 s.a0, .int .i64 s.a1, .int .i64 s.w0, .int .i64 s.w1, (.slice bo s.book.length bc), (.slice ro s.reads.length rc)]⟩] w (fun v _ => v = .bool (decide (TrueP s))) := by
  refine CallsR.of_SX (n := 13) (rs := [.tmp 2]) Tryd.func60 rfl rfl rfl rfl ?_
  show SX _ _ _ ⟨[(0, .agg ⟨[.int .i64 s.weeks, .int .i64 s.most, .int .i64 s.fall, .int .i64 s.a0, .int .i64 s.a1, .int .i64 s.w0, .int .i64 s.w1, (.slice bo s.book.length bc), (.slice ro s.reads.length rc)]⟩)], [], []⟩
  refine SX.seq ?_
  refine SX.region ?_
  refine SXL.box rfl rfl ?_; intro b0
  refine SXL.assign rfl ?_
  refine SXL.nil ?_
  refine thenQ.normal ?_
  refine SX.seq ?_
  refine SX.region ?_
  refine SXL.loadNo 0 sh_27 rfl rfl rfl ?_
  refine SXL.callF (RnR (rnsL s (baseL s)) (lvsL s (baseL s) (rnsL s (baseL s)))) fn_111 rfl (fun w hI => rains_any s bo ro _ _ hv _ (hs.inv hI)) ?_; rintro _ _ ⟨r1, r2, o1, o2, rfl, rfl⟩
  refine SXL.move rfl ?_
  refine SXL.extract rfl rfl ?_
  refine SXL.extract rfl rfl ?_
  refine SXL.assign rfl ?_
  refine SXL.assign rfl ?_
  refine SXL.nil ?_
  refine thenQ.normal ?_
  refine SX.seq ?_
  refine SX.region ?_
  refine SXL.move rfl ?_
  refine SXL.len is_35 rfl ?_
  refine SXL.gtr rfl rfl ?_
  refine SXL.assign rfl ?_
  refine SXL.nil ?_
  refine thenQ.normal ?_
  refine SX.ret ?_
  refine retQ.one (ResAt.tmp rfl) ?_
  exact congrArg Value.bool (decide_eq_decide.2 (len_pos_iff _))
theorem can_any (s : Sp) (bo ro : Option Addr) (bc rc : Nat) (w : World) (hs : SpAt w s bo ro) :
    CallsR Tryd.prog 19 [.agg ⟨[.int .i64 s.weeks, .int .i64 s.most, .int .i64 s.fall, .int .i64 s.a0, .int .i64 s.a1, .int .i64 s.w0, .int .i64 s.w1, (.slice bo s.book.length bc), (.slice ro s.reads.length rc)]⟩] w (fun v _ => v = .tuple ⟨[.bool (decide (SpP s ∧ TrueP s)), .int .i64 (if SpP s then 0 else 10)]⟩) := by
  refine CallsR.of_SX (n := 9) (rs := [.tmp 2, .tmp 3]) Tryd.func19 rfl rfl rfl rfl ?_
  show SX _ _ _ ⟨[(0, .agg ⟨[.int .i64 s.weeks, .int .i64 s.most, .int .i64 s.fall, .int .i64 s.a0, .int .i64 s.a1, .int .i64 s.w0, .int .i64 s.w1, (.slice bo s.book.length bc), (.slice ro s.reads.length rc)]⟩)], [], []⟩
  refine SX.seq ?_
  refine SX.region ?_
  refine SXL.box rfl rfl ?_; intro b0
  refine SXL.assign rfl ?_
  refine SXL.assign rfl ?_
  refine SXL.nil ?_
  refine thenQ.normal ?_
  refine SX.seq ?_
  refine SX.seq ?_
  refine SX.region ?_
  refine SXL.loadNo 0 sh_27 rfl rfl rfl ?_
  refine SXL.call1 (.bool (decide (SpP s))) fn_74 rfl (fun w hI => spring_any s bo ro _ _ _ (hs.inv hI)) ?_
  refine SXL.not rfl ?_
  refine SXL.nil ?_
  refine thenQ.normal ?_
  refine SX.condP rfl (fun c6 => ?_) (fun c6 => ?_)
  · refine SX.seq ?_
    refine SX.region ?_
    refine SXL.assign rfl ?_
    refine SXL.assign rfl ?_
    refine SXL.nil ?_
    refine thenQ.normal ?_
    refine SX.ret ?_
    refine thenQ.ret ?_
    refine retQ.two (ResAt.tmp rfl) (ResAt.tmp rfl) ?_
    rw [if_neg c6, decide_eq_false (p := SpP s ∧ TrueP s) (fun h => c6 h.1)]
  · refine SX.skip ?_
    refine thenQ.normal ?_
    refine SX.seq ?_
    refine SX.region ?_
    refine SXL.loadNo 0 sh_27 rfl rfl rfl ?_
    refine SXL.call1 (.bool (decide (TrueP s))) fn_60 rfl (fun w hI => true_any s bo ro _ _ (Decidable.not_not.1 c6) _ (hs.inv hI)) ?_
    refine SXL.assign rfl ?_
    refine SXL.assign rfl ?_
    refine SXL.nil ?_
    refine thenQ.normal ?_
    refine SX.ret ?_
    refine retQ.two (ResAt.tmp rfl) (ResAt.tmp rfl) ?_
    rw [if_pos (Decidable.not_not.1 c6), decide_eq_decide.2 (show TrueP s ↔ SpP s ∧ TrueP s from ⟨fun h => ⟨Decidable.not_not.1 c6, h⟩, fun h => h.2⟩)]
theorem check_any (s : Sp) (bo ro : Option Addr) (bc rc : Nat) (w : World) (hs : SpAt w s bo ro) :
    CallsR Tryd.prog 27 [.agg ⟨[.int .i64 s.weeks, .int .i64 s.most, .int .i64 s.fall, .int .i64 s.a0, .int .i64 s.a1, .int .i64 s.w0, .int .i64 s.w1, (.slice bo s.book.length bc), (.slice ro s.reads.length rc)]⟩] w (fun v _ => v = .int .i64 (if SpP s then 0 else 10)) := by
  refine CallsR.of_SX (n := 6) (rs := [.tmp 2]) Tryd.func27 rfl rfl rfl rfl ?_
  show SX _ _ _ ⟨[(0, .agg ⟨[.int .i64 s.weeks, .int .i64 s.most, .int .i64 s.fall, .int .i64 s.a0, .int .i64 s.a1, .int .i64 s.w0, .int .i64 s.w1, (.slice bo s.book.length bc), (.slice ro s.reads.length rc)]⟩)], [], []⟩
  refine SX.seq ?_
  refine SX.region ?_
  refine SXL.box rfl rfl ?_; intro b0
  refine SXL.assign rfl ?_
  refine SXL.nil ?_
  refine thenQ.normal ?_
  refine SX.seq ?_
  refine SX.seq ?_
  refine SX.region ?_
  refine SXL.loadNo 0 sh_27 rfl rfl rfl ?_
  refine SXL.call1 (.bool (decide (SpP s))) fn_74 rfl (fun w hI => spring_any s bo ro _ _ _ (hs.inv hI)) ?_
  refine SXL.not rfl ?_
  refine SXL.nil ?_
  refine thenQ.normal ?_
  refine SX.condP rfl (fun c5 => ?_) (fun c5 => ?_)
  · refine SX.seq ?_
    refine SX.region ?_
    refine SXL.assign rfl ?_
    refine SXL.nil ?_
    refine thenQ.normal ?_
    refine SX.ret ?_
    refine thenQ.ret ?_
    refine retQ.one (ResAt.tmp rfl) ?_
    rw [if_neg c5]
  · refine SX.skip ?_
    refine thenQ.normal ?_
    refine SX.seq ?_
    refine SX.region ?_
    refine SXL.assign rfl ?_
    refine SXL.nil ?_
    refine thenQ.normal ?_
    refine SX.ret ?_
    refine retQ.one (ResAt.tmp rfl) ?_
    rw [if_pos (Decidable.not_not.1 c5)]
theorem told_any (s : Sp) (bo ro : Option Addr) (bc rc : Nat) (week : Int) (w : World) (hs : SpAt w s bo ro) :
    CallsR Tryd.prog 77 [.agg ⟨[.int .i64 s.weeks, .int .i64 s.most, .int .i64 s.fall, .int .i64 s.a0, .int .i64 s.a1, .int .i64 s.w0, .int .i64 s.w1, (.slice bo s.book.length bc), (.slice ro s.reads.length rc)]⟩, .int .i64 week] w (RnR3 (toldL s week) (toldA s week) (toldE s week)) := by
  refine CallsR.of_SX (n := 28) (rs := [.tmp 4, .tmp 5, .tmp 6]) Tryd.func77 rfl rfl rfl rfl ?_
  show SX _ _ _ ⟨[(0, .agg ⟨[.int .i64 s.weeks, .int .i64 s.most, .int .i64 s.fall, .int .i64 s.a0, .int .i64 s.a1, .int .i64 s.w0, .int .i64 s.w1, (.slice bo s.book.length bc), (.slice ro s.reads.length rc)]⟩), (1, .int .i64 week)], [], []⟩
  refine SX.seq ?_
  refine SX.region ?_
  refine SXL.box rfl rfl ?_; intro b0
  refine SXL.assign rfl ?_
  refine SXL.assign rfl ?_
  refine SXL.assign rfl ?_
  refine SXL.nil ?_
  refine thenQ.normal ?_
  refine SX.seq ?_
  refine SX.seq ?_
  refine SX.region ?_
  refine SXL.loadNo 0 sh_27 rfl rfl rfl ?_
  refine SXL.call1 (.bool (decide (SpP s))) fn_74 rfl (fun w hI => spring_any s bo ro _ _ _ (hs.inv hI)) ?_
  refine SXL.not rfl ?_
  refine SXL.nil ?_
  refine thenQ.normal ?_
  refine SX.condP rfl (fun c11 => ?_) (fun c11 => ?_)
  · refine SX.seq ?_
    refine SX.region ?_
    refine SXL.assign rfl ?_
    refine SXL.assign rfl ?_
    refine SXL.assign rfl ?_
    refine SXL.nil ?_
    refine thenQ.normal ?_
    refine SX.ret ?_
    refine thenQ.ret ?_
    refine retQ.dead [Sl.nil.ent 3 [], Sl.nil.ent 156 []] rfl ?_
    refine retQ.three (ResAt.tmp rfl) (ResAt.tmp rfl) (ResAt.tmp rfl) ?_
    exact RnR3.errs (toldE_bad c11) (by omega)
  · refine SX.skip ?_
    refine thenQ.normal ?_
    refine SX.seq ?_
    refine SX.seq ?_
    have hv := Decidable.not_not.1 c11
    have hH := hv.1
    unfold HeadP at hH
    refine SX.region ?_
    refine SXL.move rfl ?_
    refine SXL.fieldAddr fp_27_0 rfl ?_
    refine SXL.load1o 0 sh_3 rfl rfl rfl ?_
    refine SXL.sub rfl rfl (by omega) ?_
    refine SXL.call1 (.bool (decide (Wi week 0 (s.weeks - 1)))) fn_104 rfl (fun w hI => within_any _ _ _ _) ?_
    refine SXL.not rfl ?_
    refine SXL.nil ?_
    refine thenQ.normal ?_
    refine SX.condP rfl (fun c17 => ?_) (fun c17 => ?_)
    · refine SX.seq ?_
      refine SX.region ?_
      refine SXL.assign rfl ?_
      refine SXL.assign rfl ?_
      refine SXL.assign rfl ?_
      refine SXL.nil ?_
      refine thenQ.normal ?_
      refine SX.ret ?_
      refine thenQ.ret ?_
      refine retQ.dead [Sl.nil.ent 3 [], Sl.nil.ent 156 []] rfl ?_
      refine retQ.three (ResAt.tmp rfl) (ResAt.tmp rfl) (ResAt.tmp rfl) ?_
      exact RnR3.errs (toldE_week hv c17) (by omega)
    · refine SX.skip ?_
      refine thenQ.normal ?_
      refine SX.seq ?_
      have hwk := Decidable.not_not.1 c17
      refine SX.region ?_
      refine SXL.loadNo 0 sh_27 rfl rfl rfl ?_
      refine SXL.callF (RnR (rnsL s (baseL s)) (lvsL s (baseL s) (rnsL s (baseL s)))) fn_111 rfl (fun w hI => rains_any s bo ro _ _ hv _ (hs.inv hI)) ?_; rintro _ _ ⟨r1, r2, o1, o2, rfl, rfl⟩
      refine SXL.move rfl ?_
      refine SXL.extract rfl rfl ?_
      refine SXL.extract rfl rfl ?_
      refine SXL.assign rfl ?_
      refine SXL.assign rfl ?_
      refine SXL.nil ?_
      refine thenQ.normal ?_
      refine SX.seq ?_
      refine SX.seq ?_
      refine SX.region ?_
      refine SXL.move rfl ?_
      refine SXL.len is_35 rfl ?_
      refine SXL.eqlI rfl rfl ?_
      refine SXL.nil ?_
      refine thenQ.normal ?_
      refine SX.condP rfl (fun c25 => ?_) (fun c25 => ?_)
      · refine SX.seq ?_
        refine SX.region ?_
        refine SXL.assign rfl ?_
        refine SXL.assign rfl ?_
        refine SXL.assign rfl ?_
        refine SXL.nil ?_
        refine thenQ.normal ?_
        refine SX.ret ?_
        refine thenQ.ret ?_
        refine retQ.dead [Sl.nil.ent 3 [], Sl.nil.ent 156 []] rfl ?_
        refine retQ.three (ResAt.tmp rfl) (ResAt.tmp rfl) (ResAt.tmp rfl) ?_
        exact RnR3.errs (toldE_none hv hwk (List.eq_nil_of_length_eq_zero (by omega))) (by omega)
      · refine SX.skip ?_
        refine thenQ.normal ?_
        refine SX.seq ?_
        refine SX.region ?_
        refine SXL.move rfl ?_
        refine SXL.move rfl ?_
        refine SXL.assign rfl ?_
        refine SXL.assign rfl ?_
        refine SXL.assign rfl ?_
        refine SXL.nil ?_
        refine thenQ.normal ?_
        refine SX.ret ?_
        refine retQ.sel [1, 2] rfl rfl ?_
        refine retQ.three (ResAt.tmp rfl) (ResAt.tmp rfl) (ResAt.tmp rfl) ?_
        have he := toldE_ok hv hwk (fun h => c25 (by rw [h]; rfl)); have hl := toldL_ok he; exact ⟨r1, r2, by rw [hl]; exact o1, by rw [toldA, hl]; exact o2, by rw [he, toldA, hl], by rw [toldA, hl]⟩
theorem Rains_any (s : Sp) (bo ro : Option Addr) (bc rc : Nat) (w : World) (hs : SpAt w s bo ro) :
    CallsR Tryd.prog 21 [.agg ⟨[.int .i64 s.weeks, .int .i64 s.most, .int .i64 s.fall, .int .i64 s.a0, .int .i64 s.a1, .int .i64 s.w0, .int .i64 s.w1, (.slice bo s.book.length bc), (.slice ro s.reads.length rc)]⟩] w (IsR2 (toldL s 0) (toldE s 0)) := by
  refine CallsR.of_SX (n := 15) (rs := [.tmp 2, .tmp 3]) Tryd.func21 rfl rfl rfl rfl ?_
  show SX _ _ _ ⟨[(0, .agg ⟨[.int .i64 s.weeks, .int .i64 s.most, .int .i64 s.fall, .int .i64 s.a0, .int .i64 s.a1, .int .i64 s.w0, .int .i64 s.w1, (.slice bo s.book.length bc), (.slice ro s.reads.length rc)]⟩)], [], []⟩
  refine SX.seq ?_
  refine SX.region ?_
  refine SXL.box rfl rfl ?_; intro b0
  refine SXL.assign rfl ?_
  refine SXL.assign rfl ?_
  refine SXL.nil ?_
  refine thenQ.normal ?_
  refine SX.seq ?_
  refine SX.region ?_
  refine SXL.loadNo 0 sh_27 rfl rfl rfl ?_
  refine SXL.callF (RnR3 (toldL s 0) (toldA s 0) (toldE s 0)) fn_77 rfl (fun w hI => told_any s bo ro _ _ _ _ (hs.inv hI)) ?_; rintro _ _ ⟨r1, r2, o1, o2, rfl, rfl⟩
  refine SXL.move rfl ?_
  refine SXL.extract rfl rfl ?_
  refine SXL.extract rfl rfl ?_
  refine SXL.extract rfl rfl ?_
  refine SXL.assign rfl ?_
  refine SXL.assign rfl ?_
  refine SXL.assign rfl ?_
  refine SXL.nil ?_
  refine thenQ.normal ?_
  refine SX.seq ?_
  refine SX.region ?_
  refine SXL.move rfl ?_
  refine SXL.move rfl ?_
  refine SXL.assign rfl ?_
  refine SXL.assign rfl ?_
  refine SXL.nil ?_
  refine thenQ.normal ?_
  refine SX.ret ?_
  refine retQ.sel [1] rfl rfl ?_
  refine retQ.two (ResAt.tmp rfl) (ResAt.tmp rfl) ?_
  exact ⟨r1, o1, rfl, rfl⟩
theorem gives_any (s : Sp) (bo ro : Option Addr) (bc rc : Nat) (week : Int) (w : World) (hs : SpAt w s bo ro) :
    CallsR Tryd.prog 23 [.agg ⟨[.int .i64 s.weeks, .int .i64 s.most, .int .i64 s.fall, .int .i64 s.a0, .int .i64 s.a1, .int .i64 s.w0, .int .i64 s.w1, (.slice bo s.book.length bc), (.slice ro s.reads.length rc)]⟩, .int .i64 week] w (fun v _ => v = .tuple ⟨[.agg ⟨[.int .i64 ((givesLo s week)), .int .i64 ((givesHi s week))]⟩, .int .i64 (toldE s week)]⟩) := by
  refine CallsR.of_SX (n := 23) (rs := [.cell 4 23, .tmp 5]) Tryd.func23 rfl rfl rfl rfl ?_
  show SX _ _ _ ⟨[(0, .agg ⟨[.int .i64 s.weeks, .int .i64 s.most, .int .i64 s.fall, .int .i64 s.a0, .int .i64 s.a1, .int .i64 s.w0, .int .i64 s.w1, (.slice bo s.book.length bc), (.slice ro s.reads.length rc)]⟩), (1, .int .i64 week)], [], []⟩
  refine SX.seq ?_
  refine SX.region ?_
  refine SXL.box rfl rfl ?_; intro b0
  refine SXL.alloc zp_23 ?_; intro b1
  refine SXL.assign rfl ?_
  refine SXL.nil ?_
  refine thenQ.normal ?_
  refine SX.seq ?_
  refine SX.region ?_
  refine SXL.loadNo 0 sh_27 rfl rfl rfl ?_
  refine SXL.move rfl ?_
  refine SXL.callF (RnR3 (toldL s week) (toldA s week) (toldE s week)) fn_77 rfl (fun w hI => told_any s bo ro _ _ _ _ (hs.inv hI)) ?_; rintro _ _ ⟨r1, r2, o1, o2, rfl, rfl⟩
  refine SXL.move rfl ?_
  refine SXL.extract rfl rfl ?_
  refine SXL.extract rfl rfl ?_
  refine SXL.extract rfl rfl ?_
  refine SXL.assign rfl ?_
  refine SXL.assign rfl ?_
  refine SXL.assign rfl ?_
  refine SXL.nil ?_
  refine thenQ.normal ?_
  refine SX.seq ?_
  refine SX.seq ?_
  refine SX.region ?_
  refine SXL.move rfl ?_
  refine SXL.neqI rfl rfl ?_
  refine SXL.nil ?_
  refine thenQ.normal ?_
  refine SX.condP rfl (fun c17 => ?_) (fun c17 => ?_)
  · refine SX.seq ?_
    refine SX.region ?_
    refine SXL.buildS pl_23 zp_23 rfl rfl ?_
    refine SXL.move rfl ?_
    refine SXL.store 1 sz_23 rfl rfl rfl rfl rfl rfl ?_
    refine SXL.assign rfl ?_
    refine SXL.nil ?_
    refine thenQ.normal ?_
    refine SX.ret ?_
    refine thenQ.ret ?_
    refine retQ.two (ResAt.cellNo 1 sh_23 rfl rfl rfl) (ResAt.tmp rfl) ?_
    rw [givesLo, givesHi, if_neg c17, if_neg c17]
  · refine SX.skip ?_
    refine thenQ.normal ?_
    refine SX.seq ?_
    refine SX.region ?_
    refine SXL.move rfl ?_
    refine SXL.move rfl ?_
    have he := Decidable.not_not.1 c17
    obtain ⟨hv, hwk, hne⟩ := toldE_valid he
    have hA0 : 0 < (toldA s week).length := by rw [toldA, toldL_ok he, lvsL, List.length_map]; exact List.length_pos_iff.2 hne
    obtain ⟨wk, rfl⟩ := Int.eq_ofNat_of_zero_le hwk.1
    have hH := hv.1
    unfold HeadP at hH
    refine SXL.call1 (.agg ⟨[.int .i64 ((hLo (toldA s wk) wk)), .int .i64 ((hHi (toldA s wk) wk))]⟩) fn_79 rfl (fun w hI => hull_any _ (toldA_len _) hA0 (toldA_max he) wk (by omega) _ _ _ (slRows (i := 3) hI (toldA_len _) o2 rfl)) ?_
    refine SXL.store 1 sz_23 rfl rfl rfl rfl rfl rfl ?_
    refine SXL.assign rfl ?_
    refine SXL.nil ?_
    refine thenQ.normal ?_
    refine SX.ret ?_
    refine retQ.two (ResAt.cellNo 1 sh_23 rfl rfl rfl) (ResAt.tmp rfl) ?_
    rw [givesLo, givesHi, if_pos he, if_pos he, he]; rfl
theorem known_any (s : Sp) (bo ro : Option Addr) (bc rc : Nat) (week need : Int) (w : World) (hs : SpAt w s bo ro) :
    CallsR Tryd.prog 25 [.agg ⟨[.int .i64 s.weeks, .int .i64 s.most, .int .i64 s.fall, .int .i64 s.a0, .int .i64 s.a1, .int .i64 s.w0, .int .i64 s.w1, (.slice bo s.book.length bc), (.slice ro s.reads.length rc)]⟩, .int .i64 week, .int .i64 need] w (fun v _ => v = .tuple ⟨[.int .u8 (knownV s week need), .int .i64 (toldE s week)]⟩) := by
  refine CallsR.of_SX (n := 27) (rs := [.tmp 6, .tmp 7]) Tryd.func25 rfl rfl rfl rfl ?_
  show SX _ _ _ ⟨[(0, .agg ⟨[.int .i64 s.weeks, .int .i64 s.most, .int .i64 s.fall, .int .i64 s.a0, .int .i64 s.a1, .int .i64 s.w0, .int .i64 s.w1, (.slice bo s.book.length bc), (.slice ro s.reads.length rc)]⟩), (1, .int .i64 week), (2, .int .i64 need)], [], []⟩
  refine SX.seq ?_
  refine SX.region ?_
  refine SXL.box rfl rfl ?_; intro b0
  refine SXL.assign rfl ?_
  refine SXL.assign rfl ?_
  refine SXL.nil ?_
  refine thenQ.normal ?_
  refine SX.seq ?_
  refine SX.region ?_
  refine SXL.loadNo 0 sh_27 rfl rfl rfl ?_
  refine SXL.move rfl ?_
  refine SXL.call1 (.tuple ⟨[.agg ⟨[.int .i64 ((givesLo s week)), .int .i64 ((givesHi s week))]⟩, .int .i64 (toldE s week)]⟩) fn_23 rfl (fun w hI => gives_any s bo ro _ _ _ _ (hs.inv hI)) ?_
  refine SXL.move rfl ?_
  refine SXL.extract rfl rfl ?_
  refine SXL.extract rfl rfl ?_
  refine SXL.alloc zp_23 ?_; intro b1
  refine SXL.store 1 sz_23 rfl rfl rfl rfl rfl rfl ?_
  refine SXL.assign rfl ?_
  refine SXL.nil ?_
  refine thenQ.normal ?_
  refine SX.seq ?_
  refine SX.seq ?_
  refine SX.region ?_
  refine SXL.move rfl ?_
  refine SXL.neqI rfl rfl ?_
  refine SXL.nil ?_
  refine thenQ.normal ?_
  refine SX.condP rfl (fun c17 => ?_) (fun c17 => ?_)
  · refine SX.seq ?_
    refine SX.region ?_
    refine SXL.move rfl ?_
    refine SXL.assign rfl ?_
    refine SXL.assign rfl ?_
    refine SXL.nil ?_
    refine thenQ.normal ?_
    refine SX.ret ?_
    refine thenQ.ret ?_
    refine retQ.two (ResAt.tmp rfl) (ResAt.tmp rfl) ?_
    rw [knownV, if_pos c17]
  · refine SX.skip ?_
    refine thenQ.normal ?_
    refine SX.seq ?_
    refine SX.seq ?_
    refine SX.region ?_
    refine SXL.fieldAddr fp_23_0 rfl ?_
    refine SXL.load1o 1 sh_3 rfl rfl rfl ?_
    refine SXL.move rfl ?_
    refine SXL.geq rfl rfl ?_
    refine SXL.nil ?_
    refine thenQ.normal ?_
    refine SX.condP rfl (fun c22 => ?_) (fun c22 => ?_)
    · refine SX.seq ?_
      refine SX.region ?_
      refine SXL.assign rfl ?_
      refine SXL.assign rfl ?_
      refine SXL.nil ?_
      refine thenQ.normal ?_
      refine SX.ret ?_
      refine thenQ.ret ?_
      refine retQ.two (ResAt.tmp rfl) (ResAt.tmp rfl) ?_
      rw [knownV, if_neg c17, if_pos c22, Decidable.not_not.1 c17]
    · refine SX.skip ?_
      refine thenQ.normal ?_
      refine SX.seq ?_
      refine SX.seq ?_
      refine SX.region ?_
      refine SXL.fieldAddr fp_23_1 rfl ?_
      refine SXL.load1o 1 sh_3 rfl rfl rfl ?_
      refine SXL.move rfl ?_
      refine SXL.lss rfl rfl ?_
      refine SXL.nil ?_
      refine thenQ.normal ?_
      refine SX.condP rfl (fun c26 => ?_) (fun c26 => ?_)
      · refine SX.seq ?_
        refine SX.region ?_
        refine SXL.assign rfl ?_
        refine SXL.assign rfl ?_
        refine SXL.nil ?_
        refine thenQ.normal ?_
        refine SX.ret ?_
        refine thenQ.ret ?_
        refine retQ.two (ResAt.tmp rfl) (ResAt.tmp rfl) ?_
        rw [knownV, if_neg c17, if_neg c22, if_pos c26, Decidable.not_not.1 c17]
      · refine SX.skip ?_
        refine thenQ.normal ?_
        refine SX.seq ?_
        refine SX.region ?_
        refine SXL.assign rfl ?_
        refine SXL.assign rfl ?_
        refine SXL.nil ?_
        refine thenQ.normal ?_
        refine SX.ret ?_
        refine retQ.two (ResAt.tmp rfl) (ResAt.tmp rfl) ?_
        rw [knownV, if_neg c17, if_neg c22, if_neg c26, Decidable.not_not.1 c17]
end Go.Proofs.YtknflipongbngaaDoor

/- The walks of functions. -/
namespace Go.Proofs.YtknflipongbngaaDoor
open Go.X Go.S Go.RowKit
set_option maxHeartbeats 1000000 in
theorem rread_any (s : Sp) (bo ro : Option Addr) (bc rc : Nat) (x : Rd) (w : World) (hs : SpAt w s bo ro) :
    CallsR Tryd.prog 31 [.agg ⟨[.int .i64 s.weeks, .int .i64 s.most, .int .i64 s.fall, .int .i64 s.a0, .int .i64 s.a1, .int .i64 s.w0, .int .i64 s.w1, (.slice bo s.book.length bc), (.slice ro s.reads.length rc)]⟩, .agg ⟨x.cells⟩] w (fun v _ => v = .tuple ⟨[.agg ⟨[.int .i64 ((readLo s x)), .int .i64 ((readHi s x))]⟩, .int .i64 (readE s x)]⟩) := by
  refine CallsR.of_SX (n := 43) (rs := [.cell 4 23, .tmp 5]) Tryd.func31 rfl rfl rfl rfl ?_
  show SX _ _ _ ⟨[(0, .agg ⟨[.int .i64 s.weeks, .int .i64 s.most, .int .i64 s.fall, .int .i64 s.a0, .int .i64 s.a1, .int .i64 s.w0, .int .i64 s.w1, (.slice bo s.book.length bc), (.slice ro s.reads.length rc)]⟩), (1, .agg ⟨x.cells⟩)], [], []⟩
  refine SX.seq ?_
  refine SX.region ?_
  refine SXL.box rfl rfl ?_; intro b0
  refine SXL.box rfl rfl ?_; intro b1
  refine SXL.alloc zp_23 ?_; intro b2
  refine SXL.assign rfl ?_
  refine SXL.nil ?_
  refine thenQ.normal ?_
  refine SX.seq ?_
  refine SX.seq ?_
  refine SX.region ?_
  refine SXL.loadNo 0 sh_27 rfl rfl rfl ?_
  refine SXL.call1 (.bool (decide (SpP s))) fn_74 rfl (fun w hI => spring_any s bo ro bc rc _ (hs.inv hI)) ?_
  refine SXL.not rfl ?_
  refine SXL.nil ?_
  refine thenQ.normal ?_
  refine SX.condP rfl (fun c10 => ?_) (fun c10 => ?_)
  · refine SX.seq ?_
    refine SX.region ?_
    refine SXL.buildS pl_23 zp_23 rfl rfl ?_
    refine SXL.store 2 sz_23 rfl rfl rfl rfl rfl rfl ?_
    refine SXL.assign rfl ?_
    refine SXL.nil ?_
    refine thenQ.normal ?_
    refine SX.ret ?_
    refine thenQ.ret ?_
    refine retQ.two (ResAt.cellNo 2 sh_23 rfl rfl rfl) (ResAt.tmp rfl) ?_
    have he : readE s x = 10 := if_pos c10
    rw [readLo, readHi, if_neg (by rw [he]; omega), if_neg (by rw [he]; omega), he]
  · refine SX.skip ?_
    refine thenQ.normal ?_
    refine SX.seq ?_
    refine SX.seq ?_
    have hv : SpP s := Decidable.not_not.1 c10
    have hH := hv.1
    unfold HeadP at hH
    refine SX.region ?_
    refine SXL.loadNo 1 sh_54 rfl rfl rfl ?_
    refine SXL.fieldAddr fp_27_0 rfl ?_
    refine SXL.load1o 0 sh_3 rfl rfl rfl ?_
    refine SXL.call1 (.bool (decide (RdP x s.weeks))) fn_71 rfl (fun w hI => reading_any x s.weeks (by omega) (by omega) _) ?_
    refine SXL.not rfl ?_
    refine SXL.nil ?_
    refine thenQ.normal ?_
    refine SX.condP rfl (fun c16 => ?_) (fun c16 => ?_)
    · refine SX.seq ?_
      refine SX.region ?_
      refine SXL.buildS pl_23 zp_23 rfl rfl ?_
      refine SXL.store 2 sz_23 rfl rfl rfl rfl rfl rfl ?_
      refine SXL.assign rfl ?_
      refine SXL.nil ?_
      refine thenQ.normal ?_
      refine SX.ret ?_
      refine thenQ.ret ?_
      refine retQ.two (ResAt.cellNo 2 sh_23 rfl rfl rfl) (ResAt.tmp rfl) ?_
      have he : readE s x = 12 := by rw [readE, if_neg (by simpa using hv), if_pos c16]
      rw [readLo, readHi, if_neg (by rw [he]; omega), if_neg (by rw [he]; omega), he]
    · refine SX.skip ?_
      refine thenQ.normal ?_
      refine SX.seq ?_
      have hx : RdP x s.weeks := Decidable.not_not.1 c16
      refine SX.region ?_
      refine SXL.fieldAddr fp_27_1 rfl ?_
      refine SXL.load1o 0 sh_3 rfl rfl rfl ?_
      refine SXL.add rfl rfl (by omega) ?_
      refine SXL.buildS pl_23 zp_23 rfl rfl ?_
      refine SXL.alloc zp_23 ?_; intro b3
      refine SXL.store 3 sz_23 rfl rfl rfl rfl rfl rfl ?_
      refine SXL.nil ?_
      refine thenQ.normal ?_
      refine SX.seq ?_
      refine SX.seq ?_
      refine SX.region ?_
      refine SXL.assign rfl ?_
      refine SXL.nil ?_
      refine thenQ.normal ?_
      refine SX.block ?_
      refine SX.loopG (α := Nat × Int × Int) [2, 3, 4, 5, 6] rfl (fun ⟨k, p⟩ => [(7, .int .i64 ((k : Int)))]) (fun ⟨k, p⟩ => [(3, (b3, .cells ⟨[.int .i64 p.1, .int .i64 p.2]⟩ 23 (0, 0)))]) (fun ⟨k, p⟩ => (k : Int) ≤ s.most + 1 ∧ p = rTo s x k) (fun ⟨k, p⟩ => (s.most + 1 - k).toNat) (0, (s.most + 1, -1)) ⟨by show ((0 : Nat) : Int) ≤ _; omega, rfl⟩ ⟨rfl, trivial⟩ rfl ?_
      rintro ⟨k, p⟩ ⟨hkl, hp⟩
      refine SX.seq ?_
      refine SX.seq ?_
      refine SX.region ?_
      refine SXL.move rfl ?_
      refine SXL.fieldAddr fp_27_1 rfl ?_
      refine SXL.load1o 0 sh_3 rfl rfl rfl ?_
      refine SXL.leq rfl rfl ?_
      refine SXL.nil ?_
      refine thenQ.normal ?_
      refine SX.condP rfl (fun c25 => ?_) (fun c25 => ?_)
      · refine SX.skip ?_
        refine thenQ.normal ?_
        refine SX.seq ?_
        refine SX.block ?_
        refine SX.seq ?_
        have hkm : (k : Int) ≤ s.most := by omega
        refine SX.region ?_
        refine SXL.loadNo 0 sh_27 rfl rfl rfl ?_
        refine SXL.loadNo 1 sh_54 rfl rfl rfl ?_
        refine SXL.move rfl ?_
        refine SXL.call1 (.bool (decide (Right s x (k : Int)))) fn_82 rfl (fun w hI => right_any s bo ro bc rc x (k : Int) (by omega) (by omega) (by omega) (by omega) _) ?_
        refine SXL.nil ?_
        refine thenQ.normal ?_
        refine SX.condP rfl (fun c31 => ?_) (fun c31 => ?_)
        · refine SX.region ?_
          refine SXL.fieldAddr fp_23_0 rfl ?_
          refine SXL.load1o 3 sh_3 rfl rfl rfl ?_
          refine SXL.move rfl ?_
          refine SXL.min rfl rfl ?_
          refine SXL.move rfl ?_
          refine SXL.buildS pl_23 zp_23 rfl rfl ?_
          refine SXL.store 3 sz_23 rfl rfl rfl rfl rfl rfl ?_
          refine SXL.nil ?_
          refine blockQ.normal ?_
          refine thenQ.normal ?_
          refine SX.region ?_
          refine SXL.move rfl ?_
          refine SXL.add rfl rfl (by omega) ?_
          refine SXL.assign rfl ?_
          refine SXL.nil ?_
          refine thenQ.normal ?_
          refine ⟨(k + 1, (_, _)), Meets.mk _ ⟨rfl, trivial⟩ ⟨rfl, rfl, rfl, rfl, rfl, trivial⟩ rfl, ?_, (by show (s.most + 1 - ((k + 1 : Nat) : Int)).toNat < (s.most + 1 - (k : Int)).toNat; omega)⟩
          first
            | exact ⟨by show ((k + 1 : Nat) : Int) ≤ _; omega, by rw [rTo, if_pos c31, ← hp]⟩
            | exact ⟨by show ((k + 1 : Nat) : Int) ≤ _; omega, by rw [rTo, if_neg c31, ← hp]⟩
        · refine SX.skip ?_
          refine blockQ.normal ?_
          refine thenQ.normal ?_
          refine SX.region ?_
          refine SXL.move rfl ?_
          refine SXL.add rfl rfl (by omega) ?_
          refine SXL.assign rfl ?_
          refine SXL.nil ?_
          refine thenQ.normal ?_
          refine ⟨(k + 1, (_, _)), Meets.mk _ ⟨rfl, trivial⟩ ⟨rfl, rfl, rfl, rfl, rfl, trivial⟩ rfl, ?_, (by show (s.most + 1 - ((k + 1 : Nat) : Int)).toNat < (s.most + 1 - (k : Int)).toNat; omega)⟩
          first
            | exact ⟨by show ((k + 1 : Nat) : Int) ≤ _; omega, by rw [rTo, if_pos c31, ← hp]⟩
            | exact ⟨by show ((k + 1 : Nat) : Int) ≤ _; omega, by rw [rTo, if_neg c31, ← hp]⟩
      · refine SX.exit ?_
        refine thenQ.exit ?_
        refine thenQ.exit ?_
        refine blockQ.exit ?_
        refine thenQ.normal ?_
        refine SX.seq ?_
        refine SX.seq ?_
        have hke : (k : Int) = s.most + 1 := by omega
        obtain ⟨hr1, hr2⟩ := rTo_end (s := s) (x := x) (by omega) (by omega) (by omega) (by omega) (by omega) hke
        refine SX.region ?_
        refine SXL.fieldAddr fp_23_1 rfl ?_
        refine SXL.load1o 3 sh_3 rfl rfl rfl ?_
        refine SXL.lss rfl rfl ?_
        refine SXL.nil ?_
        refine thenQ.normal ?_
        refine SX.condP rfl (fun c40 => ?_) (fun c40 => ?_)
        · refine SX.seq ?_
          refine SX.region ?_
          refine SXL.buildS pl_23 zp_23 rfl rfl ?_
          refine SXL.store 2 sz_23 rfl rfl rfl rfl rfl rfl ?_
          refine SXL.assign rfl ?_
          refine SXL.nil ?_
          refine thenQ.normal ?_
          refine SX.ret ?_
          refine thenQ.ret ?_
          refine retQ.two (ResAt.cellNo 2 sh_23 rfl rfl rfl) (ResAt.tmp rfl) ?_
          have he : readE s x = 6 := by rw [readE, if_neg (by simpa using hv), if_neg (not_not_intro hx), if_pos (hr1.1 (hp ▸ c40))]
          rw [readLo, readHi, if_neg (by rw [he]; omega), if_neg (by rw [he]; omega), he]
        · refine SX.skip ?_
          refine thenQ.normal ?_
          refine SX.seq ?_
          refine SX.region ?_
          refine SXL.loadNo 3 sh_23 rfl rfl rfl ?_
          refine SXL.store 2 sz_23 rfl rfl rfl rfl rfl rfl ?_
          refine SXL.assign rfl ?_
          refine SXL.nil ?_
          refine thenQ.normal ?_
          refine SX.ret ?_
          refine retQ.two (ResAt.cellNo 2 sh_23 rfl rfl rfl) (ResAt.tmp rfl) ?_
          have hne : readsP s x ≠ (1, 0) := fun e => c40 (hp ▸ hr1.2 e)
          have he : readE s x = 0 := by rw [readE, if_neg (by simpa using hv), if_neg (not_not_intro hx), if_neg hne]
          rw [readLo, readHi, if_pos he, if_pos he, he, ← hr2 hne, ← hp]
set_option maxHeartbeats 1000000 in
theorem sread_any (s : Sp) (bo ro : Option Addr) (bc rc : Nat) (x : Rd) (hb : s.book.length ≤ 1000000) (hr : s.reads.length ≤ 1000000) (w : World) (hg : Gl w) (hs : SpAt w s bo ro) :
    CallsR Tryd.prog 30 [.agg ⟨[.int .i64 s.weeks, .int .i64 s.most, .int .i64 s.fall, .int .i64 s.a0, .int .i64 s.a1, .int .i64 s.w0, .int .i64 s.w1, (.slice bo s.book.length bc), (.slice ro s.reads.length rc)]⟩, .agg ⟨x.cells⟩] w (fun v _ => v = .tuple ⟨[.agg ⟨[.int .i64 ((readLo s x)), .int .i64 ((readHi s x))]⟩, .int .i64 (readE s x)]⟩) := by
  refine CallsR.of_SX (n := 28) (rs := [.cell 4 23, .tmp 5]) Tryd.func30 rfl rfl rfl rfl ?_
  show SX _ _ _ ⟨[(0, .agg ⟨[.int .i64 s.weeks, .int .i64 s.most, .int .i64 s.fall, .int .i64 s.a0, .int .i64 s.a1, .int .i64 s.w0, .int .i64 s.w1, (.slice bo s.book.length bc), (.slice ro s.reads.length rc)]⟩), (1, .agg ⟨x.cells⟩)], [], []⟩
  refine SX.seq ?_
  refine SX.region ?_
  refine SXL.box rfl rfl ?_; intro b0
  refine SXL.box rfl rfl ?_; intro b1
  refine SXL.alloc zp_23 ?_; intro b2
  refine SXL.assign rfl ?_
  refine SXL.nil ?_
  refine thenQ.normal ?_
  refine SX.seq ?_
  refine SX.seq ?_
  refine SX.region ?_
  refine SXL.loadNo 0 sh_27 rfl rfl rfl ?_
  refine SXL.call1 (.int .i64 (if SpP s then 0 else 10)) fn_26 rfl (fun w hI => scheck_any s bo ro bc rc hb hr _ (hg.inv hI) (hs.inv hI)) ?_
  refine SXL.assign rfl ?_
  refine SXL.nil ?_
  refine thenQ.normal ?_
  refine SX.seq ?_
  refine SX.region ?_
  refine SXL.move rfl ?_
  refine SXL.neqI rfl rfl ?_
  refine SXL.nil ?_
  refine thenQ.normal ?_
  refine SX.condP rfl (fun c11 => ?_) (fun c11 => ?_)
  · refine SX.seq ?_
    have hv : ¬SpP s := fun h => c11 (by rw [if_pos h])
    refine SX.region ?_
    refine SXL.buildS pl_23 zp_23 rfl rfl ?_
    refine SXL.move rfl ?_
    refine SXL.store 2 sz_23 rfl rfl rfl rfl rfl rfl ?_
    refine SXL.assign rfl ?_
    refine SXL.nil ?_
    refine thenQ.normal ?_
    refine SX.ret ?_
    refine thenQ.ret ?_
    refine retQ.two (ResAt.cellNo 2 sh_23 rfl rfl rfl) (ResAt.tmp rfl) ?_
    have he : readE s x = 10 := if_pos hv
    rw [if_neg hv]
    rw [readLo, readHi, if_neg (by rw [he]; omega), if_neg (by rw [he]; omega), he]
  · refine SX.skip ?_
    refine thenQ.normal ?_
    refine SX.seq ?_
    refine SX.seq ?_
    have hv : SpP s := Decidable.byContradiction fun h => c11 (by rw [if_neg h]; omega)
    have hH := hv.1
    unfold HeadP at hH
    refine SX.region ?_
    refine SXL.loadNo 1 sh_54 rfl rfl rfl ?_
    refine SXL.fieldAddr fp_27_0 rfl ?_
    refine SXL.load1o 0 sh_3 rfl rfl rfl ?_
    refine SXL.call1 (.bool (decide (RdP x s.weeks))) fn_80 rfl (fun w hI => readable_any x s.weeks ⟨by omega, by omega⟩ _) ?_
    refine SXL.not rfl ?_
    refine SXL.nil ?_
    refine thenQ.normal ?_
    refine SX.condP rfl (fun c18 => ?_) (fun c18 => ?_)
    · refine SX.seq ?_
      refine SX.region ?_
      refine SXL.buildS pl_23 zp_23 rfl rfl ?_
      refine SXL.store 2 sz_23 rfl rfl rfl rfl rfl rfl ?_
      refine SXL.assign rfl ?_
      refine SXL.nil ?_
      refine thenQ.normal ?_
      refine SX.ret ?_
      refine thenQ.ret ?_
      refine retQ.two (ResAt.cellNo 2 sh_23 rfl rfl rfl) (ResAt.tmp rfl) ?_
      have he : readE s x = 12 := by rw [readE, if_neg (by simpa using hv), if_pos c18]
      rw [readLo, readHi, if_neg (by rw [he]; omega), if_neg (by rw [he]; omega), he]
    · refine SX.skip ?_
      refine thenQ.normal ?_
      refine SX.seq ?_
      have hx : RdP x s.weeks := Decidable.not_not.1 c18
      refine SX.region ?_
      refine SXL.loadNo 0 sh_27 rfl rfl rfl ?_
      refine SXL.loadNo 1 sh_54 rfl rfl rfl ?_
      refine SXL.call1 (spanV (readsP s x)) fn_81 rfl (fun w hI => reads_any s bo ro bc rc x (by omega) (by omega) (by omega) (by omega) (by omega) _ (hg.inv hI)) ?_
      refine SXL.alloc zp_23 ?_; intro b3
      refine SXL.store 3 sz_23 rfl rfl rfl rfl rfl rfl ?_
      refine SXL.nil ?_
      refine thenQ.normal ?_
      refine SX.seq ?_
      refine SX.seq ?_
      refine SX.region ?_
      refine SXL.loadNo 3 sh_23 rfl rfl rfl ?_
      refine SXL.loadN sh_23 rfl (hg.memN _) rfl ?_
      refine SXL.eqlV (p := [(readsP s x).1, (readsP s x).2] = [1, 0]) (u := .agg ⟨ints ([(readsP s x).1, (readsP s x).2])⟩) (v := .agg ⟨ints ([1, 0])⟩) rfl rfl (run_eql_ints eq_23 eg_23 sh_23 rfl rfl) ?_
      refine SXL.nil ?_
      refine thenQ.normal ?_
      refine SX.condP rfl (fun c25 => ?_) (fun c25 => ?_)
      · refine SX.seq ?_
        refine SX.region ?_
        refine SXL.buildS pl_23 zp_23 rfl rfl ?_
        refine SXL.store 2 sz_23 rfl rfl rfl rfl rfl rfl ?_
        refine SXL.assign rfl ?_
        refine SXL.nil ?_
        refine thenQ.normal ?_
        refine SX.ret ?_
        refine thenQ.ret ?_
        refine retQ.two (ResAt.cellNo 2 sh_23 rfl rfl rfl) (ResAt.tmp rfl) ?_
        have hpe : readsP s x = (1, 0) := by simpa [Prod.ext_iff] using c25
        have he : readE s x = 6 := by rw [readE, if_neg (by simpa using hv), if_neg (not_not_intro hx), if_pos hpe]
        rw [readLo, readHi, if_neg (by rw [he]; omega), if_neg (by rw [he]; omega), he]
      · refine SX.skip ?_
        refine thenQ.normal ?_
        refine SX.seq ?_
        refine SX.region ?_
        refine SXL.loadNo 3 sh_23 rfl rfl rfl ?_
        refine SXL.store 2 sz_23 rfl rfl rfl rfl rfl rfl ?_
        refine SXL.assign rfl ?_
        refine SXL.nil ?_
        refine thenQ.normal ?_
        refine SX.ret ?_
        refine retQ.two (ResAt.cellNo 2 sh_23 rfl rfl rfl) (ResAt.tmp rfl) ?_
        have hne : readsP s x ≠ (1, 0) := fun e => c25 (by rw [e])
        have he : readE s x = 0 := by rw [readE, if_neg (by simpa using hv), if_neg (not_not_intro hx), if_neg hne]
        rw [readLo, readHi, if_pos he, if_pos he, he]
set_option maxHeartbeats 2000000 in
theorem rrests_any (s : Sp) (bo ro : Option Addr) (bc rc : Nat) (week : Int) (w : World) (hs : SpAt w s bo ro) :
    CallsR Tryd.prog 33 [.agg ⟨[.int .i64 s.weeks, .int .i64 s.most, .int .i64 s.fall, .int .i64 s.a0, .int .i64 s.a1, .int .i64 s.w0, .int .i64 s.w1, (.slice bo s.book.length bc), (.slice ro s.reads.length rc)]⟩, .int .i64 week] w (IsR2 (restsL s week) (toldE s week)) := by
  refine CallsR.of_SX (n := 49) (rs := [.tmp 4, .tmp 5]) Tryd.func33 rfl rfl rfl rfl ?_
  show SX _ _ _ ⟨[(0, .agg ⟨[.int .i64 s.weeks, .int .i64 s.most, .int .i64 s.fall, .int .i64 s.a0, .int .i64 s.a1, .int .i64 s.w0, .int .i64 s.w1, (.slice bo s.book.length bc), (.slice ro s.reads.length rc)]⟩), (1, .int .i64 week)], [], []⟩
  refine SX.seq ?_
  refine SX.region ?_
  refine SXL.box rfl rfl ?_; intro b0
  refine SXL.assign rfl ?_
  refine SXL.assign rfl ?_
  refine SXL.nil ?_
  refine thenQ.normal ?_
  refine SX.seq ?_
  refine SX.region ?_
  refine SXL.loadNo 0 sh_27 rfl rfl rfl ?_
  refine SXL.move rfl ?_
  refine SXL.call1 (.tuple ⟨[.agg ⟨[.int .i64 ((givesLo s week)), .int .i64 ((givesHi s week))]⟩, .int .i64 (toldE s week)]⟩) fn_23 rfl (fun w hI => gives_any s bo ro bc rc week _ (hs.inv hI)) ?_
  refine SXL.move rfl ?_
  refine SXL.extract rfl rfl ?_
  refine SXL.extract rfl rfl ?_
  refine SXL.alloc zp_23 ?_; intro b1
  refine SXL.store 1 sz_23 rfl rfl rfl rfl rfl rfl ?_
  refine SXL.assign rfl ?_
  refine SXL.nil ?_
  refine thenQ.normal ?_
  refine SX.seq ?_
  refine SX.seq ?_
  refine SX.region ?_
  refine SXL.move rfl ?_
  refine SXL.neqI rfl rfl ?_
  refine SXL.nil ?_
  refine thenQ.normal ?_
  refine SX.condP rfl (fun c20 => ?_) (fun c20 => ?_)
  · refine SX.seq ?_
    refine SX.region ?_
    refine SXL.move rfl ?_
    refine SXL.assign rfl ?_
    refine SXL.assign rfl ?_
    refine SXL.nil ?_
    refine thenQ.normal ?_
    refine SX.ret ?_
    refine thenQ.ret ?_
    refine retQ.dead [Sl.nil.ent 3 []] rfl ?_
    refine retQ.two (ResAt.tmp rfl) (ResAt.tmp rfl) ?_
    have hL : restsL s week = [] := if_neg c20
    exact ⟨Sl.nil, by rw [hL]; exact .none _, by rw [hL]; rfl, by rw [hL]; rfl⟩
  · refine SX.skip ?_
    refine thenQ.normal ?_
    refine SX.seq ?_
    have h0 : toldE s week = 0 := Decidable.not_not.1 c20
    obtain ⟨hv, hwk, ht⟩ := toldE_valid h0
    have hH := hv.1
    unfold HeadP at hH
    refine SX.region ?_
    refine SXL.assign rfl ?_
    refine SXL.nil ?_
    refine thenQ.normal ?_
    refine SX.seq ?_
    refine SX.seq ?_
    refine SX.pad (Sl.nil.ent 3 []) rfl ?_
    refine SX.region ?_
    refine SXL.fieldAddr fp_27_6 rfl ?_
    refine SXL.load1o 0 sh_25 rfl rfl rfl ?_
    refine SXL.len is_25 rfl ?_
    refine SXL.move rfl ?_
    refine SXL.nil ?_
    refine thenQ.normal ?_
    refine SX.block ?_
    refine SX.loopG (α := Nat × Sl × Nat × List Value) [1, 2, 4, 5, 6, 23, 24] rfl (fun ⟨k, q, n, c⟩ => [(25, .int .i64 ((k : Int))), (8, q.val n)]) (fun ⟨k, q, n, c⟩ => [(2, q.ent 3 c)]) (fun ⟨k, q, n, c⟩ => k ≤ s.reads.length ∧ q.Ok n 1 c ∧ c = ints (restsTo s week k)) (fun ⟨k, q, n, c⟩ => s.reads.length - k) (0, Sl.nil, 0, []) ⟨Nat.zero_le _, .none _, rfl⟩ ⟨rfl, rfl, trivial⟩ rfl ?_
    rintro ⟨k, q, n, c⟩ ⟨hkl, ho, rfl⟩
    have hn1 := Ok.n ho
    have hrl := restsTo_len s week k
    refine SX.seq ?_
    refine SX.region ?_
    refine SXL.lss rfl rfl ?_
    refine SXL.nil ?_
    refine thenQ.normal ?_
    refine SX.seq ?_
    refine SX.condP rfl (fun c2 => ?_) (fun c2 => ?_)
    · refine SX.skip ?_
      refine thenQ.normal ?_
      refine SX.seq ?_
      refine SX.block ?_
      refine SX.seq ?_
      have hk : k < s.reads.length := by omega
      obtain ⟨b, o, ha, hm⟩ := hs.readD hk
      refine SX.region ?_
      refine SXL.indexR el_25 rfl rfl ha (by omega) ?_
      refine SXL.loadN sh_54 rfl (hm _) rfl ?_
      refine SXL.alloc zp_54 ?_; intro b3
      refine SXL.store 3 sz_54 rfl rfl rfl rfl rfl rfl ?_
      refine SXL.nil ?_
      refine thenQ.normal ?_
      refine SX.seq ?_
      refine SX.region ?_
      refine SXL.loadNo 0 sh_27 rfl rfl rfl ?_
      refine SXL.fieldAddr fp_54_0 rfl ?_
      refine SXL.load1o 3 sh_3 rfl rfl rfl ?_
      refine SXL.buildSlice et_35 zp_3 rfl rfl rfl rfl ?_; intro b4
      refine SXL.callF (SpR (wo s [(s.reads.getD k default).num])) fn_85 rfl (fun w hI => rwithout_any s bo ro bc rc [(s.reads.getD k default).num] (some ⟨b4, 0, none⟩) 1 (by simp) (by omega) (by omega) w (hs.inv hI) (ownOnes hI (i := 4) [(s.reads.getD k default).num] rfl)) ?_; rintro _ _ ⟨r1, r2, o1, o2, rfl, rfl⟩
      refine SXL.move rfl ?_
      refine SXL.call1 (.tuple ⟨[.agg ⟨[.int .i64 ((givesLo (wo s [(s.reads.getD k default).num]) week)), .int .i64 ((givesHi (wo s [(s.reads.getD k default).num]) week))]⟩, .int .i64 (toldE (wo s [(s.reads.getD k default).num]) week)]⟩) fn_23 rfl (fun w hI => gives_any (wo s [(s.reads.getD k default).num]) r1.addr r2.addr r1.cap r2.cap week _ (spAtOwn hI o1 o2 (i := 5) (j := 6) rfl rfl)) ?_
      refine SXL.move rfl ?_
      refine SXL.extract rfl rfl ?_
      refine SXL.extract rfl rfl ?_
      refine SXL.alloc zp_23 ?_; intro b7
      refine SXL.store 7 sz_23 rfl rfl rfl rfl rfl rfl ?_
      refine SXL.assign rfl ?_
      refine SXL.nil ?_
      refine thenQ.normal ?_
      refine SX.seq ?_
      refine SX.region ?_
      refine SXL.loadNo 7 sh_23 rfl rfl rfl ?_
      refine SXL.loadNo 1 sh_23 rfl rfl rfl ?_
      refine SXL.neqV (p := gvL (wo s [(s.reads.getD k default).num]) week ≠ gvL s week) (u := .agg ⟨ints (gvL (wo s [(s.reads.getD k default).num]) week)⟩) (v := .agg ⟨ints (gvL s week)⟩) rfl rfl (run_neq_ints eq_23 eg_23 sh_23 rfl rfl) ?_
      refine SXL.nil ?_
      refine thenQ.normal ?_
      refine SX.condP rfl (fun c41 => ?_) (fun c41 => ?_)
      · refine SX.region ?_
        refine SXL.move rfl ?_
        refine SXL.fieldAddr fp_54_0 rfl ?_
        refine SXL.load1o 3 sh_3 rfl rfl rfl ?_
        refine SXL.buildSlice et_35 zp_3 rfl rfl rfl rfl ?_; intro b8
        refine SXL.append 2 ap_35 rfl rfl ho rfl (.inr ⟨_, _, rfl, Mem.own (i := 8) rfl (takeAt_all _)⟩) rfl rfl ⟨by simp only [maxLen]; omega, by omega⟩ ?_; intro r_46 o_46
        refine SXL.assign rfl ?_
        refine SXL.nil ?_
        refine blockQ.normal ?_
        refine thenQ.normal ?_
        refine SX.region ?_
        refine SXL.add rfl rfl (by omega) ?_
        refine SXL.move rfl ?_
        refine SXL.nil ?_
        refine thenQ.normal ?_
        refine ⟨(k + 1, _, _, _), Meets.mk _ ⟨rfl, rfl, trivial⟩ ⟨rfl, rfl, rfl, rfl, rfl, rfl, rfl, trivial⟩ rfl, ?_, (show s.reads.length - (k + 1) < s.reads.length - k by omega)⟩
        first
          | exact ⟨by omega, o_46, by rw [restsTo_yes hk c41]; simp [ints]⟩
          | exact ⟨by omega, ho, by rw [restsTo_no hk (Decidable.not_not.1 c41)]⟩
      · refine SX.skip ?_
        refine blockQ.normal ?_
        refine thenQ.normal ?_
        refine SX.region ?_
        refine SXL.add rfl rfl (by omega) ?_
        refine SXL.move rfl ?_
        refine SXL.nil ?_
        refine thenQ.normal ?_
        refine ⟨(k + 1, _, _, _), Meets.mk _ ⟨rfl, rfl, trivial⟩ ⟨rfl, rfl, rfl, rfl, rfl, rfl, rfl, trivial⟩ rfl, ?_, (show s.reads.length - (k + 1) < s.reads.length - k by omega)⟩
        first
          | exact ⟨by omega, o_46, by rw [restsTo_yes hk c41]; simp [ints]⟩
          | exact ⟨by omega, ho, by rw [restsTo_no hk (Decidable.not_not.1 c41)]⟩
    · refine SX.exit ?_
      refine thenQ.exit ?_
      refine thenQ.exit ?_
      refine blockQ.exit ?_
      refine thenQ.normal ?_
      refine SX.seq ?_
      obtain rfl : k = s.reads.length := by omega
      refine SX.region ?_
      refine SXL.move rfl ?_
      refine SXL.assign rfl ?_
      refine SXL.assign rfl ?_
      refine SXL.nil ?_
      refine thenQ.normal ?_
      refine SX.ret ?_
      refine retQ.sel [2] rfl rfl ?_
      refine retQ.two (ResAt.tmp rfl) (ResAt.tmp rfl) ?_
      have e2 := Ok.n ho; subst e2; have hL : restsL s week = restsTo s week s.reads.length := if_pos h0
      rw [h0]
      exact ⟨q, by rw [hL]; exact ho, by rw [hL], by rw [hL]⟩
set_option maxHeartbeats 2000000 in
theorem srests_any (s : Sp) (bo ro : Option Addr) (bc rc : Nat) (week : Int) (hb : s.book.length ≤ 1000000) (hr : s.reads.length ≤ 1000000) (w : World) (hg : Gl w) (hs : SpAt w s bo ro) :
    CallsR Tryd.prog 32 [.agg ⟨[.int .i64 s.weeks, .int .i64 s.most, .int .i64 s.fall, .int .i64 s.a0, .int .i64 s.a1, .int .i64 s.w0, .int .i64 s.w1, (.slice bo s.book.length bc), (.slice ro s.reads.length rc)]⟩, .int .i64 week] w (IsR2 (restsL s week) (toldE s week)) := by
  refine CallsR.of_SX (n := 47) (rs := [.tmp 4, .tmp 5]) Tryd.func32 rfl rfl rfl rfl ?_
  show SX _ _ _ ⟨[(0, .agg ⟨[.int .i64 s.weeks, .int .i64 s.most, .int .i64 s.fall, .int .i64 s.a0, .int .i64 s.a1, .int .i64 s.w0, .int .i64 s.w1, (.slice bo s.book.length bc), (.slice ro s.reads.length rc)]⟩), (1, .int .i64 week)], [], []⟩
  refine SX.seq ?_
  refine SX.region ?_
  refine SXL.box rfl rfl ?_; intro b0
  refine SXL.assign rfl ?_
  refine SXL.assign rfl ?_
  refine SXL.nil ?_
  refine thenQ.normal ?_
  refine SX.seq ?_
  refine SX.region ?_
  refine SXL.loadNo 0 sh_27 rfl rfl rfl ?_
  refine SXL.move rfl ?_
  refine SXL.call1 (.tuple ⟨[.agg ⟨[.int .i64 ((givesLo s week)), .int .i64 ((givesHi s week))]⟩, .int .i64 (toldE s week)]⟩) fn_22 rfl (fun w hI => sgives_any s bo ro bc rc week hb hr _ (hg.inv hI) (hs.inv hI)) ?_
  refine SXL.move rfl ?_
  refine SXL.extract rfl rfl ?_
  refine SXL.extract rfl rfl ?_
  refine SXL.alloc zp_23 ?_; intro b1
  refine SXL.store 1 sz_23 rfl rfl rfl rfl rfl rfl ?_
  refine SXL.assign rfl ?_
  refine SXL.nil ?_
  refine thenQ.normal ?_
  refine SX.seq ?_
  refine SX.seq ?_
  refine SX.region ?_
  refine SXL.move rfl ?_
  refine SXL.neqI rfl rfl ?_
  refine SXL.nil ?_
  refine thenQ.normal ?_
  refine SX.condP rfl (fun c20 => ?_) (fun c20 => ?_)
  · refine SX.seq ?_
    refine SX.region ?_
    refine SXL.move rfl ?_
    refine SXL.assign rfl ?_
    refine SXL.assign rfl ?_
    refine SXL.nil ?_
    refine thenQ.normal ?_
    refine SX.ret ?_
    refine thenQ.ret ?_
    refine retQ.dead [Sl.nil.ent 3 []] rfl ?_
    refine retQ.two (ResAt.tmp rfl) (ResAt.tmp rfl) ?_
    have hL : restsL s week = [] := if_neg c20
    exact ⟨Sl.nil, by rw [hL]; exact .none _, by rw [hL]; rfl, by rw [hL]; rfl⟩
  · refine SX.skip ?_
    refine thenQ.normal ?_
    refine SX.seq ?_
    have h0 : toldE s week = 0 := Decidable.not_not.1 c20
    obtain ⟨hv, hwk, ht⟩ := toldE_valid h0
    have hH := hv.1
    unfold HeadP at hH
    refine SX.region ?_
    refine SXL.assign rfl ?_
    refine SXL.nil ?_
    refine thenQ.normal ?_
    refine SX.seq ?_
    refine SX.seq ?_
    refine SX.pad (Sl.nil.ent 3 []) rfl ?_
    refine SX.region ?_
    refine SXL.loadNo 0 sh_27 rfl rfl rfl ?_
    refine SXL.callF (IsI (numsL s)) fn_83 rfl (fun w hI => numbers_any s bo ro bc rc hb hr w (hs.inv hI)) ?_; rintro _ _ ⟨q0, o0, rfl, rfl⟩
    refine SXL.len is_35 rfl ?_
    refine SXL.move rfl ?_
    refine SXL.nil ?_
    refine thenQ.normal ?_
    refine SX.block ?_
    refine SX.loopG (α := Nat × Sl × Nat × List Value) [1, 2, 4, 5, 6, 23, 24] rfl (fun ⟨k, q, n, c⟩ => [(25, .int .i64 ((k : Int))), (8, q.val n)]) (fun ⟨k, q, n, c⟩ => [(2, q.ent 3 c)]) (fun ⟨k, q, n, c⟩ => k ≤ s.reads.length ∧ q.Ok n 1 c ∧ c = ints (restsTo s week k)) (fun ⟨k, q, n, c⟩ => s.reads.length - k) (0, Sl.nil, 0, []) ⟨Nat.zero_le _, .none _, rfl⟩ ⟨rfl, rfl, trivial⟩ rfl ?_
    rintro ⟨k, q, n, c⟩ ⟨hkl, ho, rfl⟩
    have hn1 := Ok.n ho
    have hrl := restsTo_len s week k
    refine SX.seq ?_
    refine SX.region ?_
    refine SXL.lss rfl rfl ?_
    refine SXL.nil ?_
    refine thenQ.normal ?_
    refine SX.seq ?_
    refine SX.condP rfl (fun c2 => ?_) (fun c2 => ?_)
    · refine SX.skip ?_
      refine thenQ.normal ?_
      refine SX.seq ?_
      refine SX.block ?_
      refine SX.seq ?_
      have hnl := length_numsL s
      have hk : k < s.reads.length := by omega
      refine SX.region ?_
      refine SXL.indexSl 3 el_35 rfl rfl (by omega) rfl o0 ?_; intro b9 hb9
      refine SXL.loadSl1 3 (v := .int .i64 (s.reads.getD k default).num) sh_3 rfl hb9 rfl o0 (by simp [ints, numsL, hk]) ?_
      refine SXL.assign rfl ?_
      refine SXL.nil ?_
      refine thenQ.normal ?_
      refine SX.seq ?_
      refine SX.region ?_
      refine SXL.loadNo 0 sh_27 rfl rfl rfl ?_
      refine SXL.move rfl ?_
      refine SXL.buildSlice et_35 zp_3 rfl rfl rfl rfl ?_; intro b4
      refine SXL.callF (SpR (wo s [(s.reads.getD k default).num])) fn_84 rfl (fun w hI => swithout_any s bo ro bc rc [(s.reads.getD k default).num] (some ⟨b4, 0, none⟩) 1 (by simp) (by omega) (by omega) (nums_nodup hv.2.2) w (hs.inv hI) (ownOnes hI (i := 4) [(s.reads.getD k default).num] rfl)) ?_; rintro _ _ ⟨r1, r2, o1, o2, rfl, rfl⟩
      refine SXL.move rfl ?_
      refine SXL.call1 (.tuple ⟨[.agg ⟨[.int .i64 ((givesLo (wo s [(s.reads.getD k default).num]) week)), .int .i64 ((givesHi (wo s [(s.reads.getD k default).num]) week))]⟩, .int .i64 (toldE (wo s [(s.reads.getD k default).num]) week)]⟩) fn_22 rfl (fun w hI => sgives_any (wo s [(s.reads.getD k default).num]) r1.addr r2.addr r1.cap r2.cap week hb (by have := keepR_len s.reads [(s.reads.getD k default).num]; show (keepR _ _).length ≤ _; omega) _ (hg.inv hI) (spAtOwn hI o1 o2 (i := 5) (j := 6) rfl rfl)) ?_
      refine SXL.move rfl ?_
      refine SXL.extract rfl rfl ?_
      refine SXL.extract rfl rfl ?_
      refine SXL.alloc zp_23 ?_; intro b7
      refine SXL.store 7 sz_23 rfl rfl rfl rfl rfl rfl ?_
      refine SXL.assign rfl ?_
      refine SXL.nil ?_
      refine thenQ.normal ?_
      refine SX.seq ?_
      refine SX.region ?_
      refine SXL.loadNo 7 sh_23 rfl rfl rfl ?_
      refine SXL.loadNo 1 sh_23 rfl rfl rfl ?_
      refine SXL.neqV (p := gvL (wo s [(s.reads.getD k default).num]) week ≠ gvL s week) (u := .agg ⟨ints (gvL (wo s [(s.reads.getD k default).num]) week)⟩) (v := .agg ⟨ints (gvL s week)⟩) rfl rfl (run_neq_ints eq_23 eg_23 sh_23 rfl rfl) ?_
      refine SXL.nil ?_
      refine thenQ.normal ?_
      refine SX.condP rfl (fun c40 => ?_) (fun c40 => ?_)
      · refine SX.region ?_
        refine SXL.move rfl ?_
        refine SXL.move rfl ?_
        refine SXL.buildSlice et_35 zp_3 rfl rfl rfl rfl ?_; intro b8
        refine SXL.append 2 ap_35 rfl rfl ho rfl (.inr ⟨_, _, rfl, Mem.own (i := 8) rfl (takeAt_all _)⟩) rfl rfl ⟨by simp only [maxLen]; omega, by omega⟩ ?_; intro r_44 o_44
        refine SXL.assign rfl ?_
        refine SXL.nil ?_
        refine blockQ.normal ?_
        refine thenQ.normal ?_
        refine SX.region ?_
        refine SXL.add rfl rfl (by omega) ?_
        refine SXL.move rfl ?_
        refine SXL.nil ?_
        refine thenQ.normal ?_
        refine ⟨(k + 1, _, _, _), Meets.mk _ ⟨rfl, rfl, trivial⟩ ⟨rfl, rfl, rfl, rfl, rfl, rfl, rfl, trivial⟩ rfl, ?_, (show s.reads.length - (k + 1) < s.reads.length - k by omega)⟩
        first
          | exact ⟨by omega, o_44, by rw [restsTo_yes hk c40]; simp [ints]⟩
          | exact ⟨by omega, ho, by rw [restsTo_no hk (Decidable.not_not.1 c40)]⟩
      · refine SX.skip ?_
        refine blockQ.normal ?_
        refine thenQ.normal ?_
        refine SX.region ?_
        refine SXL.add rfl rfl (by omega) ?_
        refine SXL.move rfl ?_
        refine SXL.nil ?_
        refine thenQ.normal ?_
        refine ⟨(k + 1, _, _, _), Meets.mk _ ⟨rfl, rfl, trivial⟩ ⟨rfl, rfl, rfl, rfl, rfl, rfl, rfl, trivial⟩ rfl, ?_, (show s.reads.length - (k + 1) < s.reads.length - k by omega)⟩
        first
          | exact ⟨by omega, o_44, by rw [restsTo_yes hk c40]; simp [ints]⟩
          | exact ⟨by omega, ho, by rw [restsTo_no hk (Decidable.not_not.1 c40)]⟩
    · refine SX.exit ?_
      refine thenQ.exit ?_
      refine thenQ.exit ?_
      refine blockQ.exit ?_
      refine thenQ.normal ?_
      refine SX.seq ?_
      have hnl := length_numsL s
      obtain rfl : k = s.reads.length := by omega
      refine SX.region ?_
      refine SXL.move rfl ?_
      refine SXL.assign rfl ?_
      refine SXL.assign rfl ?_
      refine SXL.nil ?_
      refine thenQ.normal ?_
      refine SX.ret ?_
      refine retQ.sel [2] rfl rfl ?_
      refine retQ.two (ResAt.tmp rfl) (ResAt.tmp rfl) ?_
      have e2 := Ok.n ho; subst e2; have hL : restsL s week = restsTo s week s.reads.length := if_pos h0
      rw [h0]
      exact ⟨q, by rw [hL]; exact ho, by rw [hL], by rw [hL]⟩
end Go.Proofs.YtknflipongbngaaDoor

/- What is true of a spring, and what is told of it: the plain words. Nothing of Go stands here. -/
namespace Go.S
open Go.X (G)
/-- What may be given week by week, with a rain, of what is left of each week. -/
def Tl (s : Sp) (L : List Int) (rain : Int) (t : Nat → Int) : Prop := ∀ w, w < s.weeks.toNat →
  (G L w ≤ t w ∧ t w ≤ G L (10 + w)) ∧ (∀ x ∈ s.book, x.wk = w → Wi rain x.r0 x.r1 → Wi (t w) x.g0 x.g1) ∧ (0 < w → t (w - 1) - s.fall ≤ t w ∧ t w ≤ t (w - 1))
theorem lines_tr {s : Sp} (hv : SpP s) {L : List Int} (hL : L.length = 20) (rain : Int) {w : Nat} (hw : w < s.weeks.toNat) (m : Int) : ∀ k, k ≤ s.book.length →
    ((G (linesTo s L rain k) w ≤ m ∧ m ≤ G (linesTo s L rain k) (10 + w)) ↔ ((G L w ≤ m ∧ m ≤ G L (10 + w)) ∧ ∀ x ∈ s.book.take k, x.wk = w → Wi rain x.r0 x.r1 → Wi m x.g0 x.g1))
  | 0, _ => by simp [linesTo]
  | k + 1, hk => by
    have ih := lines_tr hv hL rain hw m k (by omega)
    have h1 := hv.1; unfold HeadP at h1
    have hb := bookD hv.2.1 (show k < s.book.length by omega)
    have hlen : (linesTo s L rain k).length = 20 := by rw [linesTo_len]; exact hL
    rw [take_snoc (show k < s.book.length by omega)]
    simp only [linesTo, List.getElem?_eq_getElem (show k < s.book.length by omega), lineStep]
    have e : s.book[k] = s.book.getD k default := by simp [show k < s.book.length by omega]
    rw [e]
    generalize s.book.getD k default = x at *
    have hx : ∀ p : Prop, (∀ y ∈ s.book.take k ++ [x], y.wk = w → Wi rain y.r0 y.r1 → Wi m y.g0 y.g1) ↔ ((∀ y ∈ s.book.take k, y.wk = w → Wi rain y.r0 y.r1 → Wi m y.g0 y.g1) ∧ (x.wk = w → Wi rain x.r0 x.r1 → Wi m x.g0 x.g1)) := by
      intro _
      constructor
      · intro h; exact ⟨fun y hy => h y (by simp [hy]), h x (by simp)⟩
      · rintro ⟨h2, h3⟩ y hy
        rcases List.mem_append.1 hy with hy | hy
        · exact h2 y hy
        · simp at hy; subst hy; exact h3
    rw [hx True]
    by_cases hr : Wi rain x.r0 x.r1
    · rw [if_pos hr]
      obtain ⟨a1, a2⟩ := setA_at hlen (i := x.wk.toNat) (j := w) (by omega) (by omega) (max (G (linesTo s L rain k) x.wk.toNat) x.g0) (min (G (linesTo s L rain k) (10 + x.wk.toNat)) x.g1)
      rw [a1, a2]
      by_cases hwk : x.wk.toNat = w
      · rw [if_pos hwk, if_pos hwk, hwk]
        have e2 : x.wk = w := by omega
        constructor
        · intro h
          have := ih.1 (by omega)
          exact ⟨this.1, this.2, fun _ _ => by omega⟩
        · rintro ⟨h2, h3, h4⟩
          have := ih.2 ⟨h2, h3⟩
          have := h4 e2 hr
          omega
      · rw [if_neg hwk, if_neg hwk, ih]
        constructor
        · rintro ⟨h2, h3⟩
          exact ⟨h2, h3, fun e => by omega⟩
        · rintro ⟨h2, h3, _⟩
          exact ⟨h2, h3⟩
    · rw [if_neg hr, ih]
      constructor
      · rintro ⟨h2, h3⟩
        exact ⟨h2, h3, fun _ h => absurd h hr⟩
      · rintro ⟨h2, h3, _⟩
        exact ⟨h2, h3⟩
theorem tl_tr {s : Sp} (hv : SpP s) {L : List Int} (hL : L.length = 20) (rain : Int) (t : Nat → Int) :
    Tr s.weeks.toNat s.fall (fun w => G (linesTo s L rain s.book.length) w) (fun w => G (linesTo s L rain s.book.length) (10 + w)) t ↔ Tl s L rain t := by
  constructor
  · intro h w hw
    have h1 := h w hw
    have h2 := (lines_tr hv hL rain hw (t w) s.book.length (Nat.le_refl _)).1 ⟨h1.1, h1.2.1⟩
    rw [List.take_length] at h2
    exact ⟨h2.1, h2.2, h1.2.2⟩
  · intro h w hw
    have h1 := h w hw
    have h2 := (lines_tr hv hL rain hw (t w) s.book.length (Nat.le_refl _)).2 (by rw [List.take_length]; exact ⟨h1.1, h1.2.1⟩)
    exact ⟨h2.1, h2.2, h1.2.2⟩
theorem lv_ref {s : Sp} (hv : SpP s) {L : List Int} (hL : L.length = 20) (rain : Int) : RefP s.weeks.toNat s.fall (linesTo s L rain s.book.length) (lvL s L rain) := by
  have h1 := hv.1; unfold HeadP at h1
  exact ref_ok (by rw [linesTo_len]; exact hL) (by omega) (by omega) (by omega)
/-- All that may be given lies within what a rain leaves. -/
theorem lv_in {s : Sp} (hv : SpP s) {L : List Int} (hL : L.length = 20) {rain : Int} {t : Nat → Int} (h : Tl s L rain t) : ∀ w, w < s.weeks.toNat → G (lvL s L rain) w ≤ t w ∧ t w ≤ G (lvL s L rain) (10 + w) :=
  (lv_ref hv hL rain).wn t ((tl_tr hv hL rain t).2 h)
theorem lv_bool {s : Sp} (hv : SpP s) {L : List Int} (hL : L.length = 20) {rain : Int} {t : Nat → Int} (h : Tl s L rain t) : lvB s L rain := fun w hw => by
  have := lv_in hv hL h w hw
  omega
/-- Both ends may be given. -/
theorem lv_ends {s : Sp} (hv : SpP s) {L : List Int} (hL : L.length = 20) {rain : Int} (h : lvB s L rain) : Tl s L rain (fun w => G (lvL s L rain) w) ∧ Tl s L rain (fun w => G (lvL s L rain) (10 + w)) := by
  have h1 := hv.1; unfold HeadP at h1
  have hr := lv_ref hv hL rain
  have := ends_true hr.stp (fun w hw => hr.sub w (by omega)) h
  exact ⟨(tl_tr hv hL rain _).1 this.1, (tl_tr hv hL rain _).1 this.2⟩
theorem lv_iff {s : Sp} (hv : SpP s) {L : List Int} (hL : L.length = 20) {rain : Int} : lvB s L rain ↔ ∃ t, Tl s L rain t :=
  ⟨fun h => ⟨_, (lv_ends hv hL h).1⟩, fun ⟨_, h⟩ => lv_bool hv hL h⟩
/-- What readings leave: just the numbers that are right. -/
theorem base_mem {s : Sp} (hv : SpP s) {w : Nat} (hw : w < s.weeks.toNat) (m : Int) : (G (baseL s) w ≤ m ∧ m ≤ G (baseL s) (10 + w)) ↔ ((0 ≤ m ∧ m ≤ s.most) ∧ OkP s w m) := by
  have h1 := hv.1; unfold HeadP at h1
  have hf := flTo_mem hv s.reads.length (Nat.le_refl _) w hw
  have hb := (relW hv).rel w hw
  have hfl : flTo s s.reads.length = flL s := rfl
  rw [hfl] at hf
  constructor
  · intro h
    rcases hb with ⟨a, b⟩ | ⟨a, b⟩
    · have hle := hf.2
      have hr : 0 ≤ m ∧ m ≤ s.most := by omega
      exact ⟨hr, okP_iff.2 ((hf.1 m hr.1 hr.2).2 (by omega))⟩
    · omega
  · rintro ⟨h2, h3⟩
    have := (hf.1 m h2.1 h2.2).1 (okP_iff.1 h3)
    rcases hb with ⟨a, b⟩ | ⟨a, b⟩ <;> omega
theorem base_len {s : Sp} (hv : SpP s) : (baseL s).length = 20 := (baseL_Bd hv).len
/-- A truth: a rain, and what is given week by week. -/
def Truth (s : Sp) (rain : Int) (t : Nat → Int) : Prop := ∀ w, w < s.weeks.toNat →
  ((0 ≤ t w ∧ t w ≤ s.most) ∧ OkP s w (t w)) ∧ (∀ x ∈ s.book, x.wk = w → Wi rain x.r0 x.r1 → Wi (t w) x.g0 x.g1) ∧ (0 < w → t (w - 1) - s.fall ≤ t w ∧ t w ≤ t (w - 1))
theorem truth_tl {s : Sp} (hv : SpP s) {rain : Int} {t : Nat → Int} : Truth s rain t ↔ Tl s (baseL s) rain t := by
  constructor
  · intro h w hw
    have := h w hw
    exact ⟨(base_mem hv hw _).2 this.1, this.2⟩
  · intro h w hw
    have := h w hw
    exact ⟨(base_mem hv hw _).1 this.1, this.2⟩
theorem mem_rnsTo {s : Sp} {L : List Int} {r : Int} : ∀ k, r ∈ rnsTo s L k ↔ ∃ i : Nat, i < k ∧ r = s.w0 + i ∧ lvB s L r
  | 0 => by simp [rnsTo]
  | k + 1 => by
    have ih := mem_rnsTo (s := s) (L := L) (r := r) k
    simp only [rnsTo]
    split
    · rename_i hb
      rw [List.mem_append, ih]
      constructor
      · rintro (⟨i, h1, h2, h3⟩ | h)
        · exact ⟨i, by omega, h2, h3⟩
        · simp at h
          exact ⟨k, by omega, h, h ▸ hb⟩
      · rintro ⟨i, h1, h2, h3⟩
        by_cases e : i = k
        · right; simp [h2, e]
        · exact .inl ⟨i, by omega, h2, h3⟩
    · rename_i hb
      rw [ih]
      constructor
      · rintro ⟨i, h1, h2, h3⟩
        exact ⟨i, by omega, h2, h3⟩
      · rintro ⟨i, h1, h2, h3⟩
        by_cases e : i = k
        · subst e; subst h2; exact absurd h3 hb
        · exact ⟨i, by omega, h2, h3⟩
theorem mem_rnsL {s : Sp} {L : List Int} {r : Int} : r ∈ rnsL s L ↔ Wi r s.w0 s.w1 ∧ lvB s L r := by
  rw [rnsL, mem_rnsTo]
  unfold rnN
  constructor
  · rintro ⟨i, h1, h2, h3⟩
    exact ⟨by omega, h3⟩
  · rintro ⟨h1, h3⟩
    exact ⟨(r - s.w0).toNat, by omega, by omega, h3⟩
/-- There is a truth. -/
theorem true_iff {s : Sp} (hv : SpP s) : TrueP s ↔ ∃ rain t, Wi rain s.w0 s.w1 ∧ Truth s rain t := by
  have : TrueP s ↔ ∃ r, r ∈ rnsL s (baseL s) := by
    unfold TrueP
    constructor
    · intro h
      cases hl : rnsL s (baseL s) with
      | nil => exact absurd hl h
      | cons a l => exact ⟨a, by simp⟩
    · rintro ⟨r, h⟩ e
      rw [e] at h; cases h
  rw [this]
  constructor
  · rintro ⟨r, h⟩
    obtain ⟨h1, h2⟩ := mem_rnsL.1 h
    obtain ⟨t, h3⟩ := (lv_iff hv (base_len hv)).1 h2
    exact ⟨r, t, h1, (truth_tl hv).2 h3⟩
  · rintro ⟨r, t, h1, h2⟩
    exact ⟨r, mem_rnsL.2 ⟨h1, (lv_iff hv (base_len hv)).2 ⟨t, (truth_tl hv).1 h2⟩⟩⟩
/-- Fewer readings: no fewer truths. -/
theorem truth_sub {s : Sp} {l : List Rd} (hl : ∀ x ∈ l, x ∈ s.reads) {rain : Int} {t : Nat → Int} (h : Truth s rain t) : Truth { s with reads := l } rain t := by
  intro w hw
  have := h w hw
  refine ⟨⟨this.1.1, fun i hi => ?_⟩, this.2⟩
  obtain ⟨j, hj, he⟩ := List.getElem_of_mem (hl _ (List.getElem_mem hi))
  have := this.1.2 j hj
  rw [he] at this
  exact this
theorem wo_all {s : Sp} : wo s (numsL s) = { s with reads := [] } := by
  unfold wo keepR
  have : (s.reads.filter fun x => decide (x.num ∉ numsL s)) = [] := by
    rw [List.filter_eq_nil_iff]
    intro x hx
    simp only [numsL, decide_eq_true_eq, Decidable.not_not, List.mem_map]
    exact ⟨x, hx, rfl⟩
  rw [this]
theorem struckFrom_true {s : Sp} {rec : Nat → List Int → Option (List Int)} {l : List Int} (hrec : ∀ i l r, rec i l = some r → ∃ l', TrueP (wo s l')) : ∀ (f i : Nat) {r : List Int}, struckFrom rec s l i f = some r → ∃ l', TrueP (wo s l')
  | 0, _, _, h => by cases h
  | f + 1, i, r, h => by
    simp only [struckFrom] at h
    split at h
    · rename_i r' hr
      exact hrec _ _ _ hr
    · exact struckFrom_true hrec f (i + 1) h
theorem struck_true {s : Sp} : ∀ (m i : Nat) (l : List Int) {r : List Int}, struckP s m i l = some r → ∃ l', TrueP (wo s l')
  | 0, _, l, r, h => by
    simp only [struckP] at h
    split at h
    · rename_i ht; exact ⟨l, ht⟩
    · cases h
  | m + 1, i, l, r, h => struckFrom_true (fun i l r h => struck_true m i l h) _ _ h
/-- Without any reading there is no truth: none without some. -/
theorem none_struck {s : Sp} (hv : SpP s) (h : ¬TrueP { s with reads := [] }) (m i : Nat) (l : List Int) : struckP s m i l = none := by
  cases hs : struckP s m i l with
  | none => rfl
  | some r =>
    exfalso
    obtain ⟨l', ht⟩ := struck_true m i l hs
    obtain ⟨rain, t, h1, h2⟩ := (true_iff (wo_valid hv l')).1 ht
    have hv2 : SpP { s with reads := [] } := wo_all ▸ wo_valid hv (numsL s)
    refine h ((true_iff hv2).2 ⟨rain, t, h1, ?_⟩)
    exact truth_sub (s := wo s l') (l := []) (fun x hx => by cases hx) h2
theorem wrong_none {s : Sp} (hv : SpP s) (h : ¬TrueP { s with reads := [] }) : wrongF s = none := by
  simp [wrongF, none_struck hv h]
end Go.S

/- The readings that must be false: lists handed back. -/
namespace Go.S
open Go Go.X
/-- A list that is found, or none. -/
structure FrR (o : Option (List Int)) (v : Value) (own : X.Own) : Prop where
  ex : ∃ r : Sl, r.Ok (o.getD []).length 1 (ints (o.getD [])) ∧ v = .tuple ⟨[r.val (o.getD []).length, .bool (decide (o.isSome = true))]⟩ ∧ own = [r.ent 3 (ints (o.getD []))]
theorem FrR.none {o : Option (List Int)} (h : o = .none) : FrR o (.tuple ⟨[.slice .none 0 0, .bool (decide False)]⟩) [Sl.nil.ent 3 []] := by
  subst h
  exact ⟨Sl.nil, Sl.Ok.none _, by simp [Sl.val, Sl.nil, Sl.addr], rfl⟩
theorem FrR.some {o : Option (List Int)} {r : Sl} {l : List Int} {n : Nat} (h : o = .some l) (ho : r.Ok n 1 (ints l)) {p : Prop} [Decidable p] (hp : p) : FrR o (.tuple ⟨[r.val n, .bool (decide p)]⟩) [r.ent 3 (ints l)] := by
  subst h
  have e := Ok.n ho
  subst e
  exact ⟨r, ho, by simp [hp], rfl⟩
theorem RowsAt.cut1 {w : World} {ao : Option Addr} {l : List Int} (h : RowsAt w ao 1 (ones l)) {i c : Nat} (hc : l.length ≤ c) : RowsAt w (cutAddr ao i c 1) 1 (ones (l.drop i)) := by
  by_cases hi : l.length ≤ i
  · left
    simp [ones, List.drop_eq_nil_of_le hi]
  · rcases h with h | ⟨b, o, rfl, h2⟩
    · have hl : l = [] := by simpa [ones] using h
      simp [hl] at hi
    · right
      unfold cutAddr
      rw [if_neg (by omega)]
      refine ⟨b, o + i * 1, by simp [addr_add], fun k r hr j u hj => ?_⟩
      have hr' : (ones l)[i + k]? = .some r := by
        rw [← hr]
        simp [ones]
      have := h2 (i + k) r hr' j u hj
      rwa [show o + (i + k) * 1 + j = o + i * 1 + k * 1 + j by omega] at this
theorem _root_.Go.X.CallsR.own0 {P : Program} {f : FuncId} {args : List Value} {w : World} {S : Value → Prop} {R : Value → X.Own → Prop} (h : CallsR P f args w fun v _ => S v) (hr : ∀ v, S v → R v [Sl.nil.ent 3 []]) : CallsR P f args w R :=
  Calls.mono h fun _ _ ⟨v, _, h1, h2, h3⟩ => ⟨v, [Sl.nil.ent 3 []], h1, (h2.weaken (List.nil_sublist _)).pad (p := Sl.nil.ent 3 []) rfl, hr v h3⟩
theorem wrongF_at {s : Sp} {m : Nat} (hm : m < 3) (hb : ∀ k, k < m → struckP s k 0 [] = .none) {r : List Int} (h : struckP s m 0 [] = .some r) : wrongF s = .some r := by
  match m, hm with
  | 0, _ => simp [wrongF, h]
  | 1, _ => simp [wrongF, hb 0 (by omega), h]
  | 2, _ => simp [wrongF, hb 0 (by omega), hb 1 (by omega), h]
theorem wrongF_no {s : Sp} (hb : ∀ k, k < 3 → struckP s k 0 [] = .none) : wrongF s = .none := by
  simp [wrongF, hb 0 (by omega), hb 1 (by omega), hb 2 (by omega)]
theorem isSome_false {o : Option (List Int)} (h : ¬(o.isSome = true)) : o = .none := by cases o <;> simp_all
theorem isSome_get {o : Option (List Int)} (h : o.isSome = true) : o = .some (o.getD []) := by cases o <;> simp_all
end Go.S

/- The walks of functions. -/
namespace Go.Proofs.YtknflipongbngaaDoor
open Go.X Go.S Go.RowKit
theorem rstruck0 (s : Sp) (bo ro : Option Addr) (bc rc : Nat) (hv : SpP s) (i : Nat) (l : List Int) (ao : Option Addr) (n c : Nat) (hn : l.length = n) (hn2 : n + 0 ≤ 1000) (w : World) (hs : SpAt w s bo ro) (hl : RowsAt w ao 1 (ones l)) :
    CallsR Tryd.prog 88 [.agg ⟨[.int .i64 s.weeks, .int .i64 s.most, .int .i64 s.fall, .int .i64 s.a0, .int .i64 s.a1, .int .i64 s.w0, .int .i64 s.w1, (.slice bo s.book.length bc), (.slice ro s.reads.length rc)]⟩, .int .i64 0, .int .i64 ((i : Int)), .slice ao n c] w (fun v _ => v = .tuple ⟨[.slice ao n c, .bool (decide (TrueP (wo s l)))]⟩) := by
  have hH := hv.1
  unfold HeadP at hH
  refine CallsR.of_SX (n := 50) (rs := [.tmp 8, .tmp 9]) Tryd.func88 rfl rfl rfl rfl ?_
  show SX _ _ _ ⟨[(0, .agg ⟨[.int .i64 s.weeks, .int .i64 s.most, .int .i64 s.fall, .int .i64 s.a0, .int .i64 s.a1, .int .i64 s.w0, .int .i64 s.w1, (.slice bo s.book.length bc), (.slice ro s.reads.length rc)]⟩), (1, .int .i64 0), (2, .int .i64 ((i : Int))), (3, .slice ao n c)], [], []⟩
  subst hn
  refine SX.seq ?_
  refine SX.region ?_
  refine SXL.box rfl rfl ?_; intro b0
  refine SXL.assign rfl ?_
  refine SXL.assign rfl ?_
  refine SXL.nil ?_
  refine thenQ.normal ?_
  refine SX.seq ?_
  refine SX.seq ?_
  refine SX.region ?_
  refine SXL.move rfl ?_
  refine SXL.eqlI rfl rfl ?_
  refine SXL.nil ?_
  refine thenQ.normal ?_
  refine SX.condP rfl (fun c14 => ?_) (fun c14 => ?_)
  rotate_left
  · exfalso; exact c14 rfl
  refine SX.seq ?_
  refine SX.region ?_
  refine SXL.move rfl ?_
  refine SXL.loadNo 0 sh_27 rfl rfl rfl ?_
  refine SXL.move rfl ?_
  refine SXL.callF (SpR (wo s l)) fn_85 rfl (fun w hI => rwithout_any s bo ro bc rc l ao c (by omega) (by omega) (by omega) w (hs.inv hI) (hl.inv hI)) ?_; rintro _ _ ⟨r1, r2, o1, o2, rfl, rfl⟩
  refine SXL.call1 (.bool (decide (TrueP (wo s l)))) fn_60 rfl (fun w hI => true_any (wo s l) r1.addr r2.addr r1.cap r2.cap (wo_valid hv l) _ (spAtOwn hI o1 o2 (i := 1) (j := 2) rfl rfl)) ?_
  refine SXL.assign rfl ?_
  refine SXL.assign rfl ?_
  refine SXL.nil ?_
  refine thenQ.normal ?_
  refine SX.ret ?_
  refine thenQ.ret ?_
  refine retQ.dead [] rfl ?_
  refine retQ.two (ResAt.tmp rfl) (ResAt.tmp rfl) ?_
  rfl
set_option maxHeartbeats 2000000 in
theorem rstruck1 (s : Sp) (bo ro : Option Addr) (bc rc : Nat) (hv : SpP s) (i : Nat) (l : List Int) (ao : Option Addr) (n c : Nat) (hn : l.length = n) (hn2 : n + 1 ≤ 1000) (w : World) (hs : SpAt w s bo ro) (hl : RowsAt w ao 1 (ones l)) :
    CallsR Tryd.prog 88 [.agg ⟨[.int .i64 s.weeks, .int .i64 s.most, .int .i64 s.fall, .int .i64 s.a0, .int .i64 s.a1, .int .i64 s.w0, .int .i64 s.w1, (.slice bo s.book.length bc), (.slice ro s.reads.length rc)]⟩, .int .i64 1, .int .i64 ((i : Int)), .slice ao n c] w (FrR (struckP s 1 i l)) := by
  have hH := hv.1
  unfold HeadP at hH
  refine CallsR.of_SX (n := 50) (rs := [.tmp 8, .tmp 9]) Tryd.func88 rfl rfl rfl rfl ?_
  show SX _ _ _ ⟨[(0, .agg ⟨[.int .i64 s.weeks, .int .i64 s.most, .int .i64 s.fall, .int .i64 s.a0, .int .i64 s.a1, .int .i64 s.w0, .int .i64 s.w1, (.slice bo s.book.length bc), (.slice ro s.reads.length rc)]⟩), (1, .int .i64 1), (2, .int .i64 ((i : Int))), (3, .slice ao n c)], [], []⟩
  subst hn
  refine SX.seq ?_
  refine SX.region ?_
  refine SXL.box rfl rfl ?_; intro b0
  refine SXL.assign rfl ?_
  refine SXL.assign rfl ?_
  refine SXL.nil ?_
  refine thenQ.normal ?_
  refine SX.seq ?_
  refine SX.seq ?_
  refine SX.region ?_
  refine SXL.move rfl ?_
  refine SXL.eqlI rfl rfl ?_
  refine SXL.nil ?_
  refine thenQ.normal ?_
  refine SX.condP rfl (fun c14 => ?_) (fun c14 => ?_)
  · exfalso; omega
  refine SX.skip ?_
  refine thenQ.normal ?_
  refine SX.seq ?_
  refine SX.seq ?_
  refine SX.region ?_
  refine SXL.move rfl ?_
  refine SXL.assign rfl ?_
  refine SXL.nil ?_
  refine thenQ.normal ?_
  refine SX.block ?_
  refine SX.loopG (α := Nat) [1, 3, 4, 8, 9] rfl (fun k => [(10, .int .i64 ((k : Int)))]) (fun k => []) (fun k => struckP s 1 i l = struckP s 1 k l ∧ (k ≤ s.reads.length ∨ k ≤ i)) (fun k => s.reads.length - k) i ⟨rfl, .inr (Nat.le_refl _)⟩ ⟨rfl, trivial⟩ rfl ?_
  rintro k ⟨hst, hkl⟩
  refine SX.seq ?_
  refine SX.seq ?_
  refine SX.region ?_
  refine SXL.move rfl ?_
  refine SXL.fieldAddr fp_27_6 rfl ?_
  refine SXL.load1o 0 sh_25 rfl rfl rfl ?_
  refine SXL.len is_25 rfl ?_
  refine SXL.lss rfl rfl ?_
  refine SXL.nil ?_
  refine thenQ.normal ?_
  refine SX.condP rfl (fun c2 => ?_) (fun c2 => ?_)
  · refine SX.skip ?_
    refine thenQ.normal ?_
    refine SX.seq ?_
    refine SX.block ?_
    refine SX.seq ?_
    have hk : k < s.reads.length := by omega
    obtain ⟨b, o, ha, hm⟩ := hs.readD hk
    refine SX.draw 22 (by kernel_rfl) (by kernel_rfl) ⟨[0, 1, 2, 3, 4, 5, 6, 8, 9, 10, 11, 12, 13, 14, 15, 16, 17, 18, 19, 20, 21], [true, false, false, false]⟩ ?_
    refine SXA.takeM 0 5 rfl (by kernel_rfl) rfl ?_
    refine SXL.loadNo 0 sh_27 rfl rfl rfl ?_
    refine SXL.move rfl ?_
    refine SXL.sub rfl rfl (by omega) ?_
    refine SXL.move rfl ?_
    refine SXL.add rfl rfl (by omega) ?_
    refine SXL.nil ⟨rfl, rfl, rfl, ?_⟩
    refine SXA.takeM 6 1 rfl (by kernel_rfl) rfl ?_
    refine SXL.move rfl ?_
    refine SXL.nil ⟨rfl, rfl, rfl, ?_⟩
    refine SXA.takeM 8 6 rfl (by kernel_rfl) rfl ?_
    refine SXL.fieldAddr fp_27_6 rfl ?_
    refine SXL.load1o 0 sh_25 rfl rfl rfl ?_
    refine SXL.move rfl ?_
    refine SXL.indexR el_25 rfl rfl ha (by omega) ?_
    refine SXL.fieldAddr fp_54_0 rfl ?_
    refine SXL.load1 sh_3 rfl ((hm _).sub (j := 0) (k := 1) rfl) ?_
    refine SXL.nil ⟨rfl, rfl, rfl, ?_⟩
    refine SXA.all [5, 14] (by kernel_rfl) rfl ⟨⟨?_, rfl⟩, ⟨?_, rfl⟩, trivial⟩
    · refine (show SXL _ _ [_] _ _ from ?_)
      refine SXL.buildSlice0 et_35 ?_; intro b1
      refine SXL.nil (stepQ.mk _ rfl rfl ?_)
      refine SXA.all [7, 14] (by kernel_rfl) rfl ⟨⟨?_, rfl⟩, ⟨?_, rfl⟩, trivial⟩
      · refine (show SXL _ _ [_] _ _ from ?_)
        refine SXL.appendE (some b1) ap_35 rfl rfl (onesSrc hl _) (by simp) (ints_isOne _) ⟨by simp only [maxLen]; omega, by omega⟩ ?_; intro r_36 o_36
        refine SXL.nil (stepQ.mkL _ (by kernel_rfl) rfl rfl ?_)
        refine SXA.all [14] (by kernel_rfl) rfl ⟨⟨?_, rfl⟩, trivial⟩
        refine (show SXL _ _ [_] _ _ from ?_)
        refine SXL.buildSlice et_35 zp_3 rfl rfl rfl rfl ?_; intro b3
        refine SXL.nil (stepQ.mk _ rfl rfl ?_)
        refine SXA.all [15] (by kernel_rfl) rfl ⟨⟨?_, rfl⟩, trivial⟩
        refine (show SXL _ _ [_] _ _ from ?_)
        refine SXL.append 2 ap_35 rfl rfl o_36 rfl (.inr ⟨_, _, rfl, Mem.own (i := 3) rfl (takeAt_all _)⟩) rfl rfl ⟨by simp only [maxLen]; omega, by omega⟩ ?_; intro r_44 o_44
        refine SXL.nil (stepQ.mkL _ (by kernel_rfl) rfl rfl ?_)
        refine SXA.all [16] (by kernel_rfl) rfl ⟨⟨?_, rfl⟩, trivial⟩
        refine (show SXL _ _ [_] _ _ from ?_)
        refine SXL.callP (fun v => v = .tuple ⟨[r_44.val (l.length + 1), .bool (decide (TrueP (wo s (l ++ [(s.reads.getD k default).num]))))]⟩) fn_88 rfl (fun w hI => rstruck0 s bo ro bc rc hv (k + 1) (l ++ [(s.reads.getD k default).num]) r_44.addr (l.length + 1) r_44.cap (by simp) (by omega) w (hs.inv hI) (slOnes hI (l := (l ++ [(s.reads.getD k default).num])) (by rw [ints_snoc]; exact o_44) (i := 2) (by rw [ints_snoc]; rfl))) ?_; rintro _ rfl
        refine SXL.nil (stepQ.mk _ rfl rfl ?_)
        refine SXA.takeM 17 5 rfl (by kernel_rfl) rfl ?_
        refine SXL.move rfl ?_
        refine SXL.extract rfl rfl ?_
        refine SXL.extract rfl rfl ?_
        refine SXL.assign rfl ?_
        refine SXL.assign rfl ?_
        refine SXL.nil ⟨rfl, rfl, rfl, ?_⟩
        refine SXA.done (by kernel_rfl) ?_
        refine SXL.nil ?_
        refine thenQ.normal ?_
        refine SX.seq ?_
        refine SX.region ?_
        refine SXL.move rfl ?_
        refine SXL.nil ?_
        refine thenQ.normal ?_
        refine SX.condP rfl (fun c48 => ?_) (fun c48 => ?_)
        · refine SX.seq ?_
          refine SX.region ?_
          refine SXL.move rfl ?_
          refine SXL.assign rfl ?_
          refine SXL.assign rfl ?_
          refine SXL.nil ?_
          refine thenQ.normal ?_
          refine SX.ret ?_
          refine blockQ.ret ?_
          refine thenQ.ret ?_
          refine thenQ.ret ?_
          refine blockQ.ret ?_
          refine thenQ.ret ?_
          refine retQ.sel [2] rfl rfl ?_
          refine retQ.two (ResAt.tmp rfl) (ResAt.tmp rfl) ?_
          refine Eq.mp (congrArg (fun c => FrR _ _ [Sl.ent r_44 3 c]) (ints_snoc l (s.reads.getD k default).num)) ?_
          exact FrR.some (p := True) (hst.trans (by rw [struck_step hk]; simp only [struckP, if_pos c48])) (by rw [ints_snoc]; exact o_44) trivial
        · refine SX.skip ?_
          refine blockQ.normal ?_
          refine thenQ.normal ?_
          refine SX.region ?_
          refine SXL.move rfl ?_
          refine SXL.add rfl rfl (by omega) ?_
          refine SXL.assign rfl ?_
          refine SXL.nil ?_
          refine thenQ.normal ?_
          refine ⟨k + 1, Meets.mk _ ⟨rfl, trivial⟩ ⟨rfl, rfl, rfl, rfl, rfl, trivial⟩ rfl, ⟨by rw [hst, struck_step hk]; simp only [struckP, if_neg c48], .inl hk⟩, (by omega)⟩
      · refine (show SXL _ _ [_] _ _ from ?_)
        refine SXL.buildSlice et_35 zp_3 rfl rfl rfl rfl ?_; intro b2
        refine SXL.nil (stepQ.mk _ rfl rfl ?_)
        refine SXA.all [7] (by kernel_rfl) rfl ⟨⟨?_, rfl⟩, trivial⟩
        refine (show SXL _ _ [_] _ _ from ?_)
        refine SXL.appendE (some b1) ap_35 rfl rfl (onesSrc hl _) (by simp) (ints_isOne _) ⟨by simp only [maxLen]; omega, by omega⟩ ?_; intro r_36 o_36
        refine SXL.nil (stepQ.mkL _ (by kernel_rfl) rfl rfl ?_)
        refine SXA.all [15] (by kernel_rfl) rfl ⟨⟨?_, rfl⟩, trivial⟩
        refine (show SXL _ _ [_] _ _ from ?_)
        refine SXL.append 3 ap_35 rfl rfl o_36 rfl (.inr ⟨_, _, rfl, Mem.own (i := 2) rfl (takeAt_all _)⟩) rfl rfl ⟨by simp only [maxLen]; omega, by omega⟩ ?_; intro r_44 o_44
        refine SXL.nil (stepQ.mkL _ (by kernel_rfl) rfl rfl ?_)
        refine SXA.all [16] (by kernel_rfl) rfl ⟨⟨?_, rfl⟩, trivial⟩
        refine (show SXL _ _ [_] _ _ from ?_)
        refine SXL.callP (fun v => v = .tuple ⟨[r_44.val (l.length + 1), .bool (decide (TrueP (wo s (l ++ [(s.reads.getD k default).num]))))]⟩) fn_88 rfl (fun w hI => rstruck0 s bo ro bc rc hv (k + 1) (l ++ [(s.reads.getD k default).num]) r_44.addr (l.length + 1) r_44.cap (by simp) (by omega) w (hs.inv hI) (slOnes hI (l := (l ++ [(s.reads.getD k default).num])) (by rw [ints_snoc]; exact o_44) (i := 3) (by rw [ints_snoc]; rfl))) ?_; rintro _ rfl
        refine SXL.nil (stepQ.mk _ rfl rfl ?_)
        refine SXA.takeM 17 5 rfl (by kernel_rfl) rfl ?_
        refine SXL.move rfl ?_
        refine SXL.extract rfl rfl ?_
        refine SXL.extract rfl rfl ?_
        refine SXL.assign rfl ?_
        refine SXL.assign rfl ?_
        refine SXL.nil ⟨rfl, rfl, rfl, ?_⟩
        refine SXA.done (by kernel_rfl) ?_
        refine SXL.nil ?_
        refine thenQ.normal ?_
        refine SX.seq ?_
        refine SX.region ?_
        refine SXL.move rfl ?_
        refine SXL.nil ?_
        refine thenQ.normal ?_
        refine SX.condP rfl (fun c48 => ?_) (fun c48 => ?_)
        · refine SX.seq ?_
          refine SX.region ?_
          refine SXL.move rfl ?_
          refine SXL.assign rfl ?_
          refine SXL.assign rfl ?_
          refine SXL.nil ?_
          refine thenQ.normal ?_
          refine SX.ret ?_
          refine blockQ.ret ?_
          refine thenQ.ret ?_
          refine thenQ.ret ?_
          refine blockQ.ret ?_
          refine thenQ.ret ?_
          refine retQ.sel [3] rfl rfl ?_
          refine retQ.two (ResAt.tmp rfl) (ResAt.tmp rfl) ?_
          refine Eq.mp (congrArg (fun c => FrR _ _ [Sl.ent r_44 3 c]) (ints_snoc l (s.reads.getD k default).num)) ?_
          exact FrR.some (p := True) (hst.trans (by rw [struck_step hk]; simp only [struckP, if_pos c48])) (by rw [ints_snoc]; exact o_44) trivial
        · refine SX.skip ?_
          refine blockQ.normal ?_
          refine thenQ.normal ?_
          refine SX.region ?_
          refine SXL.move rfl ?_
          refine SXL.add rfl rfl (by omega) ?_
          refine SXL.assign rfl ?_
          refine SXL.nil ?_
          refine thenQ.normal ?_
          refine ⟨k + 1, Meets.mk _ ⟨rfl, trivial⟩ ⟨rfl, rfl, rfl, rfl, rfl, trivial⟩ rfl, ⟨by rw [hst, struck_step hk]; simp only [struckP, if_neg c48], .inl hk⟩, (by omega)⟩
    · refine (show SXL _ _ [_] _ _ from ?_)
      refine SXL.buildSlice et_35 zp_3 rfl rfl rfl rfl ?_; intro b1
      refine SXL.nil (stepQ.mk _ rfl rfl ?_)
      refine SXA.all [5] (by kernel_rfl) rfl ⟨⟨?_, rfl⟩, trivial⟩
      refine (show SXL _ _ [_] _ _ from ?_)
      refine SXL.buildSlice0 et_35 ?_; intro b2
      refine SXL.nil (stepQ.mk _ rfl rfl ?_)
      refine SXA.all [7] (by kernel_rfl) rfl ⟨⟨?_, rfl⟩, trivial⟩
      refine (show SXL _ _ [_] _ _ from ?_)
      refine SXL.appendE (some b2) ap_35 rfl rfl (onesSrc hl _) (by simp) (ints_isOne _) ⟨by simp only [maxLen]; omega, by omega⟩ ?_; intro r_36 o_36
      refine SXL.nil (stepQ.mkL _ (by kernel_rfl) rfl rfl ?_)
      refine SXA.all [15] (by kernel_rfl) rfl ⟨⟨?_, rfl⟩, trivial⟩
      refine (show SXL _ _ [_] _ _ from ?_)
      refine SXL.append 3 ap_35 rfl rfl o_36 rfl (.inr ⟨_, _, rfl, Mem.own (i := 1) rfl (takeAt_all _)⟩) rfl rfl ⟨by simp only [maxLen]; omega, by omega⟩ ?_; intro r_44 o_44
      refine SXL.nil (stepQ.mkL _ (by kernel_rfl) rfl rfl ?_)
      refine SXA.all [16] (by kernel_rfl) rfl ⟨⟨?_, rfl⟩, trivial⟩
      refine (show SXL _ _ [_] _ _ from ?_)
      refine SXL.callP (fun v => v = .tuple ⟨[r_44.val (l.length + 1), .bool (decide (TrueP (wo s (l ++ [(s.reads.getD k default).num]))))]⟩) fn_88 rfl (fun w hI => rstruck0 s bo ro bc rc hv (k + 1) (l ++ [(s.reads.getD k default).num]) r_44.addr (l.length + 1) r_44.cap (by simp) (by omega) w (hs.inv hI) (slOnes hI (l := (l ++ [(s.reads.getD k default).num])) (by rw [ints_snoc]; exact o_44) (i := 3) (by rw [ints_snoc]; rfl))) ?_; rintro _ rfl
      refine SXL.nil (stepQ.mk _ rfl rfl ?_)
      refine SXA.takeM 17 5 rfl (by kernel_rfl) rfl ?_
      refine SXL.move rfl ?_
      refine SXL.extract rfl rfl ?_
      refine SXL.extract rfl rfl ?_
      refine SXL.assign rfl ?_
      refine SXL.assign rfl ?_
      refine SXL.nil ⟨rfl, rfl, rfl, ?_⟩
      refine SXA.done (by kernel_rfl) ?_
      refine SXL.nil ?_
      refine thenQ.normal ?_
      refine SX.seq ?_
      refine SX.region ?_
      refine SXL.move rfl ?_
      refine SXL.nil ?_
      refine thenQ.normal ?_
      refine SX.condP rfl (fun c48 => ?_) (fun c48 => ?_)
      · refine SX.seq ?_
        refine SX.region ?_
        refine SXL.move rfl ?_
        refine SXL.assign rfl ?_
        refine SXL.assign rfl ?_
        refine SXL.nil ?_
        refine thenQ.normal ?_
        refine SX.ret ?_
        refine blockQ.ret ?_
        refine thenQ.ret ?_
        refine thenQ.ret ?_
        refine blockQ.ret ?_
        refine thenQ.ret ?_
        refine retQ.sel [3] rfl rfl ?_
        refine retQ.two (ResAt.tmp rfl) (ResAt.tmp rfl) ?_
        refine Eq.mp (congrArg (fun c => FrR _ _ [Sl.ent r_44 3 c]) (ints_snoc l (s.reads.getD k default).num)) ?_
        exact FrR.some (p := True) (hst.trans (by rw [struck_step hk]; simp only [struckP, if_pos c48])) (by rw [ints_snoc]; exact o_44) trivial
      · refine SX.skip ?_
        refine blockQ.normal ?_
        refine thenQ.normal ?_
        refine SX.region ?_
        refine SXL.move rfl ?_
        refine SXL.add rfl rfl (by omega) ?_
        refine SXL.assign rfl ?_
        refine SXL.nil ?_
        refine thenQ.normal ?_
        refine ⟨k + 1, Meets.mk _ ⟨rfl, trivial⟩ ⟨rfl, rfl, rfl, rfl, rfl, trivial⟩ rfl, ⟨by rw [hst, struck_step hk]; simp only [struckP, if_neg c48], .inl hk⟩, (by omega)⟩
  · refine SX.exit ?_
    refine thenQ.exit ?_
    refine thenQ.exit ?_
    refine blockQ.exit ?_
    refine thenQ.normal ?_
    refine SX.seq ?_
    refine SX.region ?_
    refine SXL.assign rfl ?_
    refine SXL.assign rfl ?_
    refine SXL.nil ?_
    refine thenQ.normal ?_
    refine SX.ret ?_
    refine retQ.dead [Sl.nil.ent 3 []] rfl ?_
    refine retQ.two (ResAt.tmp rfl) (ResAt.tmp rfl) ?_
    exact FrR.none (hst.trans (struck_done (by omega)))
set_option maxHeartbeats 2000000 in
theorem rstruck2 (s : Sp) (bo ro : Option Addr) (bc rc : Nat) (hv : SpP s) (i : Nat) (l : List Int) (ao : Option Addr) (n c : Nat) (hn : l.length = n) (hn2 : n + 2 ≤ 1000) (w : World) (hs : SpAt w s bo ro) (hl : RowsAt w ao 1 (ones l)) :
    CallsR Tryd.prog 88 [.agg ⟨[.int .i64 s.weeks, .int .i64 s.most, .int .i64 s.fall, .int .i64 s.a0, .int .i64 s.a1, .int .i64 s.w0, .int .i64 s.w1, (.slice bo s.book.length bc), (.slice ro s.reads.length rc)]⟩, .int .i64 2, .int .i64 ((i : Int)), .slice ao n c] w (FrR (struckP s 2 i l)) := by
  have hH := hv.1
  unfold HeadP at hH
  refine CallsR.of_SX (n := 50) (rs := [.tmp 8, .tmp 9]) Tryd.func88 rfl rfl rfl rfl ?_
  show SX _ _ _ ⟨[(0, .agg ⟨[.int .i64 s.weeks, .int .i64 s.most, .int .i64 s.fall, .int .i64 s.a0, .int .i64 s.a1, .int .i64 s.w0, .int .i64 s.w1, (.slice bo s.book.length bc), (.slice ro s.reads.length rc)]⟩), (1, .int .i64 2), (2, .int .i64 ((i : Int))), (3, .slice ao n c)], [], []⟩
  subst hn
  refine SX.seq ?_
  refine SX.region ?_
  refine SXL.box rfl rfl ?_; intro b0
  refine SXL.assign rfl ?_
  refine SXL.assign rfl ?_
  refine SXL.nil ?_
  refine thenQ.normal ?_
  refine SX.seq ?_
  refine SX.seq ?_
  refine SX.region ?_
  refine SXL.move rfl ?_
  refine SXL.eqlI rfl rfl ?_
  refine SXL.nil ?_
  refine thenQ.normal ?_
  refine SX.condP rfl (fun c14 => ?_) (fun c14 => ?_)
  · exfalso; omega
  refine SX.skip ?_
  refine thenQ.normal ?_
  refine SX.seq ?_
  refine SX.seq ?_
  refine SX.region ?_
  refine SXL.move rfl ?_
  refine SXL.assign rfl ?_
  refine SXL.nil ?_
  refine thenQ.normal ?_
  refine SX.block ?_
  refine SX.loopG (α := Nat) [1, 3, 4, 8, 9] rfl (fun k => [(10, .int .i64 ((k : Int)))]) (fun k => []) (fun k => struckP s 2 i l = struckP s 2 k l ∧ (k ≤ s.reads.length ∨ k ≤ i)) (fun k => s.reads.length - k) i ⟨rfl, .inr (Nat.le_refl _)⟩ ⟨rfl, trivial⟩ rfl ?_
  rintro k ⟨hst, hkl⟩
  refine SX.seq ?_
  refine SX.seq ?_
  refine SX.region ?_
  refine SXL.move rfl ?_
  refine SXL.fieldAddr fp_27_6 rfl ?_
  refine SXL.load1o 0 sh_25 rfl rfl rfl ?_
  refine SXL.len is_25 rfl ?_
  refine SXL.lss rfl rfl ?_
  refine SXL.nil ?_
  refine thenQ.normal ?_
  refine SX.condP rfl (fun c2 => ?_) (fun c2 => ?_)
  · refine SX.skip ?_
    refine thenQ.normal ?_
    refine SX.seq ?_
    refine SX.block ?_
    refine SX.seq ?_
    have hk : k < s.reads.length := by omega
    obtain ⟨b, o, ha, hm⟩ := hs.readD hk
    refine SX.draw 22 (by kernel_rfl) (by kernel_rfl) ⟨[0, 1, 2, 3, 4, 5, 6, 8, 9, 10, 11, 12, 13, 14, 15, 16, 17, 18, 19, 20, 21], [true, false, false, false, false]⟩ ?_
    refine SXA.takeM 0 5 rfl (by kernel_rfl) rfl ?_
    refine SXL.loadNo 0 sh_27 rfl rfl rfl ?_
    refine SXL.move rfl ?_
    refine SXL.sub rfl rfl (by omega) ?_
    refine SXL.move rfl ?_
    refine SXL.add rfl rfl (by omega) ?_
    refine SXL.nil ⟨rfl, rfl, rfl, ?_⟩
    refine SXA.takeM 6 1 rfl (by kernel_rfl) rfl ?_
    refine SXL.move rfl ?_
    refine SXL.nil ⟨rfl, rfl, rfl, ?_⟩
    refine SXA.takeM 8 6 rfl (by kernel_rfl) rfl ?_
    refine SXL.fieldAddr fp_27_6 rfl ?_
    refine SXL.load1o 0 sh_25 rfl rfl rfl ?_
    refine SXL.move rfl ?_
    refine SXL.indexR el_25 rfl rfl ha (by omega) ?_
    refine SXL.fieldAddr fp_54_0 rfl ?_
    refine SXL.load1 sh_3 rfl ((hm _).sub (j := 0) (k := 1) rfl) ?_
    refine SXL.nil ⟨rfl, rfl, rfl, ?_⟩
    refine SXA.all [5, 14] (by kernel_rfl) rfl ⟨⟨?_, rfl⟩, ⟨?_, rfl⟩, trivial⟩
    · refine (show SXL _ _ [_] _ _ from ?_)
      refine SXL.buildSlice0 et_35 ?_; intro b1
      refine SXL.nil (stepQ.mk _ rfl rfl ?_)
      refine SXA.all [7, 14] (by kernel_rfl) rfl ⟨⟨?_, rfl⟩, ⟨?_, rfl⟩, trivial⟩
      · refine (show SXL _ _ [_] _ _ from ?_)
        refine SXL.appendE (some b1) ap_35 rfl rfl (onesSrc hl _) (by simp) (ints_isOne _) ⟨by simp only [maxLen]; omega, by omega⟩ ?_; intro r_36 o_36
        refine SXL.nil (stepQ.mkL _ (by kernel_rfl) rfl rfl ?_)
        refine SXA.all [14] (by kernel_rfl) rfl ⟨⟨?_, rfl⟩, trivial⟩
        refine (show SXL _ _ [_] _ _ from ?_)
        refine SXL.buildSlice et_35 zp_3 rfl rfl rfl rfl ?_; intro b3
        refine SXL.nil (stepQ.mk _ rfl rfl ?_)
        refine SXA.all [15] (by kernel_rfl) rfl ⟨⟨?_, rfl⟩, trivial⟩
        refine (show SXL _ _ [_] _ _ from ?_)
        refine SXL.append 2 ap_35 rfl rfl o_36 rfl (.inr ⟨_, _, rfl, Mem.own (i := 3) rfl (takeAt_all _)⟩) rfl rfl ⟨by simp only [maxLen]; omega, by omega⟩ ?_; intro r_44 o_44
        refine SXL.nil (stepQ.mkL _ (by kernel_rfl) rfl rfl ?_)
        refine SXA.all [16] (by kernel_rfl) rfl ⟨⟨?_, rfl⟩, trivial⟩
        refine (show SXL _ _ [_] _ _ from ?_)
        refine SXL.callF (FrR (struckP s 1 (k + 1) (l ++ [(s.reads.getD k default).num]))) fn_88 rfl (fun w hI => rstruck1 s bo ro bc rc hv (k + 1) (l ++ [(s.reads.getD k default).num]) r_44.addr (l.length + 1) r_44.cap (by simp) (by omega) w (hs.inv hI) (slOnes hI (l := (l ++ [(s.reads.getD k default).num])) (by rw [ints_snoc]; exact o_44) (i := 2) (by rw [ints_snoc]; rfl))) ?_; rintro _ _ ⟨q, oq, rfl, rfl⟩
        refine SXL.nil (stepQ.mk _ rfl rfl ?_)
        refine SXA.takeM 17 5 rfl (by kernel_rfl) rfl ?_
        refine SXL.move rfl ?_
        refine SXL.extract rfl rfl ?_
        refine SXL.extract rfl rfl ?_
        refine SXL.assign rfl ?_
        refine SXL.assign rfl ?_
        refine SXL.nil ⟨rfl, rfl, rfl, ?_⟩
        refine SXA.done (by kernel_rfl) ?_
        refine SXL.nil ?_
        refine thenQ.normal ?_
        refine SX.seq ?_
        refine SX.region ?_
        refine SXL.move rfl ?_
        refine SXL.nil ?_
        refine thenQ.normal ?_
        refine SX.condP rfl (fun c48 => ?_) (fun c48 => ?_)
        · refine SX.seq ?_
          refine SX.region ?_
          refine SXL.move rfl ?_
          refine SXL.assign rfl ?_
          refine SXL.assign rfl ?_
          refine SXL.nil ?_
          refine thenQ.normal ?_
          refine SX.ret ?_
          refine blockQ.ret ?_
          refine thenQ.ret ?_
          refine thenQ.ret ?_
          refine blockQ.ret ?_
          refine thenQ.ret ?_
          refine retQ.sel [4] rfl rfl ?_
          refine retQ.two (ResAt.tmp rfl) (ResAt.tmp rfl) ?_
          exact FrR.some (p := True) (hst.trans (by rw [struck_step hk, isSome_get c48]; rfl)) oq trivial
        · refine SX.skip ?_
          refine blockQ.normal ?_
          refine thenQ.normal ?_
          refine SX.region ?_
          refine SXL.move rfl ?_
          refine SXL.add rfl rfl (by omega) ?_
          refine SXL.assign rfl ?_
          refine SXL.nil ?_
          refine thenQ.normal ?_
          refine ⟨k + 1, Meets.mk _ ⟨rfl, trivial⟩ ⟨rfl, rfl, rfl, rfl, rfl, trivial⟩ rfl, ⟨by rw [hst, struck_step hk, isSome_false c48], .inl hk⟩, (by omega)⟩
      · refine (show SXL _ _ [_] _ _ from ?_)
        refine SXL.buildSlice et_35 zp_3 rfl rfl rfl rfl ?_; intro b2
        refine SXL.nil (stepQ.mk _ rfl rfl ?_)
        refine SXA.all [7] (by kernel_rfl) rfl ⟨⟨?_, rfl⟩, trivial⟩
        refine (show SXL _ _ [_] _ _ from ?_)
        refine SXL.appendE (some b1) ap_35 rfl rfl (onesSrc hl _) (by simp) (ints_isOne _) ⟨by simp only [maxLen]; omega, by omega⟩ ?_; intro r_36 o_36
        refine SXL.nil (stepQ.mkL _ (by kernel_rfl) rfl rfl ?_)
        refine SXA.all [15] (by kernel_rfl) rfl ⟨⟨?_, rfl⟩, trivial⟩
        refine (show SXL _ _ [_] _ _ from ?_)
        refine SXL.append 3 ap_35 rfl rfl o_36 rfl (.inr ⟨_, _, rfl, Mem.own (i := 2) rfl (takeAt_all _)⟩) rfl rfl ⟨by simp only [maxLen]; omega, by omega⟩ ?_; intro r_44 o_44
        refine SXL.nil (stepQ.mkL _ (by kernel_rfl) rfl rfl ?_)
        refine SXA.all [16] (by kernel_rfl) rfl ⟨⟨?_, rfl⟩, trivial⟩
        refine (show SXL _ _ [_] _ _ from ?_)
        refine SXL.callF (FrR (struckP s 1 (k + 1) (l ++ [(s.reads.getD k default).num]))) fn_88 rfl (fun w hI => rstruck1 s bo ro bc rc hv (k + 1) (l ++ [(s.reads.getD k default).num]) r_44.addr (l.length + 1) r_44.cap (by simp) (by omega) w (hs.inv hI) (slOnes hI (l := (l ++ [(s.reads.getD k default).num])) (by rw [ints_snoc]; exact o_44) (i := 3) (by rw [ints_snoc]; rfl))) ?_; rintro _ _ ⟨q, oq, rfl, rfl⟩
        refine SXL.nil (stepQ.mk _ rfl rfl ?_)
        refine SXA.takeM 17 5 rfl (by kernel_rfl) rfl ?_
        refine SXL.move rfl ?_
        refine SXL.extract rfl rfl ?_
        refine SXL.extract rfl rfl ?_
        refine SXL.assign rfl ?_
        refine SXL.assign rfl ?_
        refine SXL.nil ⟨rfl, rfl, rfl, ?_⟩
        refine SXA.done (by kernel_rfl) ?_
        refine SXL.nil ?_
        refine thenQ.normal ?_
        refine SX.seq ?_
        refine SX.region ?_
        refine SXL.move rfl ?_
        refine SXL.nil ?_
        refine thenQ.normal ?_
        refine SX.condP rfl (fun c48 => ?_) (fun c48 => ?_)
        · refine SX.seq ?_
          refine SX.region ?_
          refine SXL.move rfl ?_
          refine SXL.assign rfl ?_
          refine SXL.assign rfl ?_
          refine SXL.nil ?_
          refine thenQ.normal ?_
          refine SX.ret ?_
          refine blockQ.ret ?_
          refine thenQ.ret ?_
          refine thenQ.ret ?_
          refine blockQ.ret ?_
          refine thenQ.ret ?_
          refine retQ.sel [4] rfl rfl ?_
          refine retQ.two (ResAt.tmp rfl) (ResAt.tmp rfl) ?_
          exact FrR.some (p := True) (hst.trans (by rw [struck_step hk, isSome_get c48]; rfl)) oq trivial
        · refine SX.skip ?_
          refine blockQ.normal ?_
          refine thenQ.normal ?_
          refine SX.region ?_
          refine SXL.move rfl ?_
          refine SXL.add rfl rfl (by omega) ?_
          refine SXL.assign rfl ?_
          refine SXL.nil ?_
          refine thenQ.normal ?_
          refine ⟨k + 1, Meets.mk _ ⟨rfl, trivial⟩ ⟨rfl, rfl, rfl, rfl, rfl, trivial⟩ rfl, ⟨by rw [hst, struck_step hk, isSome_false c48], .inl hk⟩, (by omega)⟩
    · refine (show SXL _ _ [_] _ _ from ?_)
      refine SXL.buildSlice et_35 zp_3 rfl rfl rfl rfl ?_; intro b1
      refine SXL.nil (stepQ.mk _ rfl rfl ?_)
      refine SXA.all [5] (by kernel_rfl) rfl ⟨⟨?_, rfl⟩, trivial⟩
      refine (show SXL _ _ [_] _ _ from ?_)
      refine SXL.buildSlice0 et_35 ?_; intro b2
      refine SXL.nil (stepQ.mk _ rfl rfl ?_)
      refine SXA.all [7] (by kernel_rfl) rfl ⟨⟨?_, rfl⟩, trivial⟩
      refine (show SXL _ _ [_] _ _ from ?_)
      refine SXL.appendE (some b2) ap_35 rfl rfl (onesSrc hl _) (by simp) (ints_isOne _) ⟨by simp only [maxLen]; omega, by omega⟩ ?_; intro r_36 o_36
      refine SXL.nil (stepQ.mkL _ (by kernel_rfl) rfl rfl ?_)
      refine SXA.all [15] (by kernel_rfl) rfl ⟨⟨?_, rfl⟩, trivial⟩
      refine (show SXL _ _ [_] _ _ from ?_)
      refine SXL.append 3 ap_35 rfl rfl o_36 rfl (.inr ⟨_, _, rfl, Mem.own (i := 1) rfl (takeAt_all _)⟩) rfl rfl ⟨by simp only [maxLen]; omega, by omega⟩ ?_; intro r_44 o_44
      refine SXL.nil (stepQ.mkL _ (by kernel_rfl) rfl rfl ?_)
      refine SXA.all [16] (by kernel_rfl) rfl ⟨⟨?_, rfl⟩, trivial⟩
      refine (show SXL _ _ [_] _ _ from ?_)
      refine SXL.callF (FrR (struckP s 1 (k + 1) (l ++ [(s.reads.getD k default).num]))) fn_88 rfl (fun w hI => rstruck1 s bo ro bc rc hv (k + 1) (l ++ [(s.reads.getD k default).num]) r_44.addr (l.length + 1) r_44.cap (by simp) (by omega) w (hs.inv hI) (slOnes hI (l := (l ++ [(s.reads.getD k default).num])) (by rw [ints_snoc]; exact o_44) (i := 3) (by rw [ints_snoc]; rfl))) ?_; rintro _ _ ⟨q, oq, rfl, rfl⟩
      refine SXL.nil (stepQ.mk _ rfl rfl ?_)
      refine SXA.takeM 17 5 rfl (by kernel_rfl) rfl ?_
      refine SXL.move rfl ?_
      refine SXL.extract rfl rfl ?_
      refine SXL.extract rfl rfl ?_
      refine SXL.assign rfl ?_
      refine SXL.assign rfl ?_
      refine SXL.nil ⟨rfl, rfl, rfl, ?_⟩
      refine SXA.done (by kernel_rfl) ?_
      refine SXL.nil ?_
      refine thenQ.normal ?_
      refine SX.seq ?_
      refine SX.region ?_
      refine SXL.move rfl ?_
      refine SXL.nil ?_
      refine thenQ.normal ?_
      refine SX.condP rfl (fun c48 => ?_) (fun c48 => ?_)
      · refine SX.seq ?_
        refine SX.region ?_
        refine SXL.move rfl ?_
        refine SXL.assign rfl ?_
        refine SXL.assign rfl ?_
        refine SXL.nil ?_
        refine thenQ.normal ?_
        refine SX.ret ?_
        refine blockQ.ret ?_
        refine thenQ.ret ?_
        refine thenQ.ret ?_
        refine blockQ.ret ?_
        refine thenQ.ret ?_
        refine retQ.sel [4] rfl rfl ?_
        refine retQ.two (ResAt.tmp rfl) (ResAt.tmp rfl) ?_
        exact FrR.some (p := True) (hst.trans (by rw [struck_step hk, isSome_get c48]; rfl)) oq trivial
      · refine SX.skip ?_
        refine blockQ.normal ?_
        refine thenQ.normal ?_
        refine SX.region ?_
        refine SXL.move rfl ?_
        refine SXL.add rfl rfl (by omega) ?_
        refine SXL.assign rfl ?_
        refine SXL.nil ?_
        refine thenQ.normal ?_
        refine ⟨k + 1, Meets.mk _ ⟨rfl, trivial⟩ ⟨rfl, rfl, rfl, rfl, rfl, trivial⟩ rfl, ⟨by rw [hst, struck_step hk, isSome_false c48], .inl hk⟩, (by omega)⟩
  · refine SX.exit ?_
    refine thenQ.exit ?_
    refine thenQ.exit ?_
    refine blockQ.exit ?_
    refine thenQ.normal ?_
    refine SX.seq ?_
    refine SX.region ?_
    refine SXL.assign rfl ?_
    refine SXL.assign rfl ?_
    refine SXL.nil ?_
    refine thenQ.normal ?_
    refine SX.ret ?_
    refine retQ.dead [Sl.nil.ent 3 []] rfl ?_
    refine retQ.two (ResAt.tmp rfl) (ResAt.tmp rfl) ?_
    exact FrR.none (hst.trans (struck_done (by omega)))
theorem rstruckTop (s : Sp) (bo ro : Option Addr) (bc rc : Nat) (hv : SpP s) (m : Nat) (hm : m < 3) (w : World) (hs : SpAt w s bo ro) : CallsR Tryd.prog 88 [.agg ⟨[.int .i64 s.weeks, .int .i64 s.most, .int .i64 s.fall, .int .i64 s.a0, .int .i64 s.a1, .int .i64 s.w0, .int .i64 s.w1, (.slice bo s.book.length bc), (.slice ro s.reads.length rc)]⟩, .int .i64 (m : Int), .int .i64 0, .slice none 0 0] w (FrR (struckP s m 0 [])) := by
  match m, hm with
  | 0, _ =>
    refine (rstruck0 s bo ro bc rc hv 0 [] none 0 0 rfl (by omega) w hs (.nil _ _ _)).own0 fun v e => ?_
    subst e
    simp only [struckP]
    by_cases h : TrueP (wo s [])
    · rw [if_pos h]; exact ⟨Sl.nil, Sl.Ok.none _, by simp [Sl.val, Sl.nil, Sl.addr, h], rfl⟩
    · rw [if_neg h]; exact ⟨Sl.nil, Sl.Ok.none _, by simp [Sl.val, Sl.nil, Sl.addr, h], rfl⟩
  | 1, _ => exact rstruck1 s bo ro bc rc hv 0 [] none 0 0 rfl (by omega) w hs (.nil _ _ _)
  | 2, _ => exact rstruck2 s bo ro bc rc hv 0 [] none 0 0 rfl (by omega) w hs (.nil _ _ _)
set_option maxHeartbeats 2000000 in
theorem rwrong_any (s : Sp) (bo ro : Option Addr) (bc rc : Nat) (w : World) (hs : SpAt w s bo ro) :
    CallsR Tryd.prog 35 [.agg ⟨[.int .i64 s.weeks, .int .i64 s.most, .int .i64 s.fall, .int .i64 s.a0, .int .i64 s.a1, .int .i64 s.w0, .int .i64 s.w1, (.slice bo s.book.length bc), (.slice ro s.reads.length rc)]⟩] w (IsR2 (wrongL s) (wrongE s)) := by
  refine CallsR.of_SX (n := 29) (rs := [.tmp 2, .tmp 3]) Tryd.func35 rfl rfl rfl rfl ?_
  show SX _ _ _ ⟨[(0, .agg ⟨[.int .i64 s.weeks, .int .i64 s.most, .int .i64 s.fall, .int .i64 s.a0, .int .i64 s.a1, .int .i64 s.w0, .int .i64 s.w1, (.slice bo s.book.length bc), (.slice ro s.reads.length rc)]⟩)], [], []⟩
  refine SX.seq ?_
  refine SX.region ?_
  refine SXL.box rfl rfl ?_; intro b0
  refine SXL.assign rfl ?_
  refine SXL.assign rfl ?_
  refine SXL.nil ?_
  refine thenQ.normal ?_
  refine SX.seq ?_
  refine SX.seq ?_
  refine SX.region ?_
  refine SXL.loadNo 0 sh_27 rfl rfl rfl ?_
  refine SXL.call1 (.bool (decide (SpP s))) fn_74 rfl (fun w hI => spring_any s bo ro bc rc _ (hs.inv hI)) ?_
  refine SXL.not rfl ?_
  refine SXL.nil ?_
  refine thenQ.normal ?_
  refine SX.condP rfl (fun c10 => ?_) (fun c10 => ?_)
  · refine SX.seq ?_
    refine SX.region ?_
    refine SXL.assign rfl ?_
    refine SXL.assign rfl ?_
    refine SXL.nil ?_
    refine thenQ.normal ?_
    refine SX.ret ?_
    refine thenQ.ret ?_
    refine retQ.dead [Sl.nil.ent 3 []] rfl ?_
    refine retQ.two (ResAt.tmp rfl) (ResAt.tmp rfl) ?_
    rw [wrongL, if_neg c10, wrongE, if_pos c10]; exact ⟨Sl.nil, Sl.Ok.none _, rfl, rfl⟩
  · refine SX.skip ?_
    refine thenQ.normal ?_
    refine SX.seq ?_
    refine SX.seq ?_
    have hv : SpP s := Decidable.not_not.1 c10
    have hH := hv.1
    unfold HeadP at hH
    refine SX.region ?_
    refine SXL.assign rfl ?_
    refine SXL.nil ?_
    refine thenQ.normal ?_
    refine SX.block ?_
    refine SX.loopG (α := Nat) [1, 2, 3] rfl (fun m => [(4, .int .i64 ((m : Int)))]) (fun m => []) (fun m => m ≤ 3 ∧ ∀ k, k < m → struckP s k 0 [] = none) (fun m => 3 - m) 0 ⟨by omega, fun k h => absurd h (Nat.not_lt_zero _)⟩ ⟨rfl, trivial⟩ rfl ?_
    rintro m ⟨hm3, hall⟩
    refine SX.seq ?_
    refine SX.seq ?_
    refine SX.region ?_
    refine SXL.move rfl ?_
    refine SXL.leq rfl rfl ?_
    refine SXL.nil ?_
    refine thenQ.normal ?_
    refine SX.condP rfl (fun c2 => ?_) (fun c2 => ?_)
    · refine SX.skip ?_
      refine thenQ.normal ?_
      refine SX.seq ?_
      refine SX.block ?_
      refine SX.seq ?_
      refine SX.region ?_
      refine SXL.loadNo 0 sh_27 rfl rfl rfl ?_
      refine SXL.move rfl ?_
      refine SXL.callF (FrR (struckP s m 0 [])) fn_88 rfl (fun w hI => rstruckTop s bo ro bc rc hv m (by omega) w (hs.inv hI)) ?_; rintro _ _ ⟨q, oq, rfl, rfl⟩
      refine SXL.move rfl ?_
      refine SXL.extract rfl rfl ?_
      refine SXL.extract rfl rfl ?_
      refine SXL.assign rfl ?_
      refine SXL.assign rfl ?_
      refine SXL.nil ?_
      refine thenQ.normal ?_
      refine SX.seq ?_
      refine SX.region ?_
      refine SXL.move rfl ?_
      refine SXL.nil ?_
      refine thenQ.normal ?_
      refine SX.condP rfl (fun c21 => ?_) (fun c21 => ?_)
      · refine SX.seq ?_
        refine SX.region ?_
        refine SXL.move rfl ?_
        refine SXL.assign rfl ?_
        refine SXL.assign rfl ?_
        refine SXL.nil ?_
        refine thenQ.normal ?_
        refine SX.ret ?_
        refine blockQ.ret ?_
        refine thenQ.ret ?_
        refine thenQ.ret ?_
        refine blockQ.ret ?_
        refine thenQ.ret ?_
        refine retQ.sel [1] rfl rfl ?_
        refine retQ.two (ResAt.tmp rfl) (ResAt.tmp rfl) ?_
        have hw := wrongF_at (by omega) hall (isSome_get c21)
        rw [wrongL, if_pos hv, hw, wrongE, if_neg (not_not_intro hv), hw]; exact ⟨q, oq, rfl, rfl⟩
      · refine SX.skip ?_
        refine blockQ.normal ?_
        refine thenQ.normal ?_
        refine SX.region ?_
        refine SXL.move rfl ?_
        refine SXL.add rfl rfl (by omega) ?_
        refine SXL.assign rfl ?_
        refine SXL.nil ?_
        refine thenQ.normal ?_
        refine ⟨m + 1, Meets.mk _ ⟨rfl, trivial⟩ ⟨rfl, rfl, rfl, trivial⟩ rfl, ⟨by omega, fun k hk => by
          by_cases e : k = m
          · subst e; exact isSome_false c21
          · exact hall k (by omega)⟩, (by omega)⟩
    · refine SX.exit ?_
      refine thenQ.exit ?_
      refine thenQ.exit ?_
      refine blockQ.exit ?_
      refine thenQ.normal ?_
      refine SX.seq ?_
      have hnone : wrongF s = none := wrongF_no fun k hk => hall k (by omega)
      refine SX.region ?_
      refine SXL.loadNo 0 sh_27 rfl rfl rfl ?_
      refine SXL.callF (SpR s) fn_17 rfl (fun w hI => twin_any s bo ro bc rc (by omega) (by omega) w (hs.inv hI)) ?_; rintro _ _ ⟨r1, r2, o1, o2, rfl, rfl⟩
      refine SXL.alloc zp_27 ?_; intro b3
      refine SXL.store 3 sz_27 rfl rfl rfl rfl rfl rfl ?_
      refine SXL.nil ?_
      refine thenQ.normal ?_
      refine SX.seq ?_
      refine SX.region ?_
      refine SXL.fieldAddr fp_27_6 rfl ?_
      refine SXL.store 3 sz_25 rfl rfl rfl rfl rfl rfl ?_
      refine SXL.nil ?_
      refine thenQ.normal ?_
      refine SX.seq ?_
      refine SX.seq ?_
      refine SX.region ?_
      refine SXL.loadNo 3 sh_27 rfl rfl rfl ?_
      refine SXL.call1 (.bool (decide (TrueP { s with reads := [] }))) fn_60 rfl (fun w hI => true_any { s with reads := [] } r1.addr none r1.cap 0 (wo_all ▸ wo_valid hv (numsL s)) _ ⟨(spAtOwn hI o1 o2 (i := 1) (j := 2) rfl rfl).book, .nil _ _ _⟩) ?_
      refine SXL.not rfl ?_
      refine SXL.nil ?_
      refine thenQ.normal ?_
      refine SX.condP rfl (fun c28 => ?_) (fun c28 => ?_)
      · refine SX.seq ?_
        refine SX.region ?_
        refine SXL.assign rfl ?_
        refine SXL.assign rfl ?_
        refine SXL.nil ?_
        refine thenQ.normal ?_
        refine SX.ret ?_
        refine thenQ.ret ?_
        refine retQ.dead [Sl.nil.ent 3 []] rfl ?_
        refine retQ.two (ResAt.tmp rfl) (ResAt.tmp rfl) ?_
        rw [wrongL, if_pos hv, wrongE, if_neg (not_not_intro hv), hnone, if_neg (by simp), if_pos c28]; exact ⟨Sl.nil, Sl.Ok.none _, rfl, rfl⟩
      · refine SX.skip ?_
        refine thenQ.normal ?_
        refine SX.seq ?_
        refine SX.region ?_
        refine SXL.assign rfl ?_
        refine SXL.assign rfl ?_
        refine SXL.nil ?_
        refine thenQ.normal ?_
        refine SX.ret ?_
        refine retQ.dead [Sl.nil.ent 3 []] rfl ?_
        refine retQ.two (ResAt.tmp rfl) (ResAt.tmp rfl) ?_
        rw [wrongL, if_pos hv, wrongE, if_neg (not_not_intro hv), hnone, if_neg (by simp), if_neg c28]; exact ⟨Sl.nil, Sl.Ok.none _, rfl, rfl⟩
/-- What the closure that strikes finds: the spring, itself. -/
structure StAt (w : World) (s : Sp) (bo ro : Option Addr) (bc rc b3 b4 : Nat) : Prop where
  sp : ∀ j v, (sp9 s bo ro bc rc)[j]? = some v → w.cell? ⟨b3, 0 + j, none⟩ = some v
  fn : w.cell? ⟨b4, 0, none⟩ = some (.func (.func 86) ⟨[]⟩ ⟨[.pointer (some ⟨b3, 0, none⟩), .pointer (some ⟨b4, 0, none⟩)]⟩)
theorem StAt.inv {w0 w : World} {own : X.Own} {s : Sp} {bo ro : Option Addr} {bc rc b3 b4 : Nat} (h : StAt w0 s bo ro bc rc b3 b4) (hI : Inv w0 own w) : StAt w s bo ro bc rc b3 b4 :=
  ⟨fun j v hj => cell_keep (h.sp j v hj) hI.below, cell_keep h.fn hI.below⟩
theorem strike0 (s : Sp) (bo ro : Option Addr) (bc rc : Nat) (b3 b4 : Nat) (hv : SpP s) (i : Nat) (l : List Int) (ao : Option Addr) (n c : Nat) (hn : l.length = n) (hn2 : n + 0 ≤ 1000) (lao : Option Addr) (ln lc : Nat) (hln : ln = s.reads.length - i) (hlc : ln ≤ lc) (w : World) (hg : Gl w) (hs : SpAt w s bo ro) (hst0 : StAt w s bo ro bc rc b3 b4) (hl : RowsAt w ao 1 (ones l)) (hll : RowsAt w lao 1 (ones ((numsL s).drop i))) :
    CallsR Tryd.prog 86 [.slice ao n c, .slice lao ln lc, .int .i64 0, .pointer (some ⟨b3, 0, none⟩), .pointer (some ⟨b4, 0, none⟩)] w (fun v _ => v = .tuple ⟨[.slice ao n c, .bool (decide (SpP (wo s l) ∧ TrueP (wo s l)))]⟩) := by
  have hH := hv.1
  unfold HeadP at hH
  refine CallsR.of_SX (n := 53) (rs := [.tmp 8, .tmp 9]) Tryd.func86 rfl rfl rfl rfl ?_
  show SX _ _ _ ⟨[(0, .slice ao n c), (1, .slice lao ln lc), (2, .int .i64 0), (3, .pointer (some ⟨b3, 0, none⟩)), (4, .pointer (some ⟨b4, 0, none⟩))], [], []⟩
  subst hn
  refine SX.seq ?_
  refine SX.region ?_
  refine SXL.assign rfl ?_
  refine SXL.assign rfl ?_
  refine SXL.nil ?_
  refine thenQ.normal ?_
  refine SX.seq ?_
  refine SX.seq ?_
  refine SX.region ?_
  refine SXL.move rfl ?_
  refine SXL.eqlI rfl rfl ?_
  refine SXL.nil ?_
  refine thenQ.normal ?_
  refine SX.condP rfl (fun c17 => ?_) (fun c17 => ?_)
  rotate_left
  · exfalso; exact c17 rfl
  refine SX.seq ?_
  refine SX.region ?_
  refine SXL.loadN sh_27 rfl (Mem.out hst0.sp) rfl ?_
  refine SXL.move rfl ?_
  refine SXL.callF (SpR (wo s l)) fn_84 rfl (fun w hI => swithout_any s bo ro bc rc l ao c (by omega) (by omega) (by omega) (nums_nodup hv.2.2) w (hs.inv hI) (hl.inv hI)) ?_; rintro _ _ ⟨r1, r2, o1, o2, rfl, rfl⟩
  refine SXL.call1 (.tuple ⟨[.bool (decide (SpP (wo s l) ∧ TrueP (wo s l))), .int .i64 (if SpP (wo s l) then 0 else 10)]⟩) fn_18 rfl (fun w hI => scan_any (wo s l) r1.addr r2.addr r1.cap r2.cap (show s.book.length ≤ _ by omega) (by have := keepR_len s.reads l; show (keepR _ _).length ≤ _; omega) _ (hg.inv hI) (spAtOwn hI o1 o2 (i := 0) (j := 1) rfl rfl)) ?_
  refine SXL.move rfl ?_
  refine SXL.extract rfl rfl ?_
  refine SXL.extract rfl rfl ?_
  refine SXL.assign rfl ?_
  refine SXL.assign rfl ?_
  refine SXL.nil ?_
  refine thenQ.normal ?_
  refine SX.seq ?_
  refine SX.region ?_
  refine SXL.move rfl ?_
  refine SXL.move rfl ?_
  refine SXL.assign rfl ?_
  refine SXL.assign rfl ?_
  refine SXL.nil ?_
  refine thenQ.normal ?_
  refine SX.ret ?_
  refine thenQ.ret ?_
  refine retQ.dead [] rfl ?_
  refine retQ.two (ResAt.tmp rfl) (ResAt.tmp rfl) ?_
  rfl
set_option maxHeartbeats 2000000 in
theorem strike1 (s : Sp) (bo ro : Option Addr) (bc rc : Nat) (b3 b4 : Nat) (hv : SpP s) (i : Nat) (l : List Int) (ao : Option Addr) (n c : Nat) (hn : l.length = n) (hn2 : n + 1 ≤ 1000) (lao : Option Addr) (ln lc : Nat) (hln : ln = s.reads.length - i) (hlc : ln ≤ lc) (w : World) (hg : Gl w) (hs : SpAt w s bo ro) (hst0 : StAt w s bo ro bc rc b3 b4) (hl : RowsAt w ao 1 (ones l)) (hll : RowsAt w lao 1 (ones ((numsL s).drop i))) :
    CallsR Tryd.prog 86 [.slice ao n c, .slice lao ln lc, .int .i64 1, .pointer (some ⟨b3, 0, none⟩), .pointer (some ⟨b4, 0, none⟩)] w (FrR (struckP s 1 i l)) := by
  have hH := hv.1
  unfold HeadP at hH
  refine CallsR.of_SX (n := 53) (rs := [.tmp 8, .tmp 9]) Tryd.func86 rfl rfl rfl rfl ?_
  show SX _ _ _ ⟨[(0, .slice ao n c), (1, .slice lao ln lc), (2, .int .i64 1), (3, .pointer (some ⟨b3, 0, none⟩)), (4, .pointer (some ⟨b4, 0, none⟩))], [], []⟩
  subst hn
  have hnl := length_numsL s
  refine SX.seq ?_
  refine SX.region ?_
  refine SXL.assign rfl ?_
  refine SXL.assign rfl ?_
  refine SXL.nil ?_
  refine thenQ.normal ?_
  refine SX.seq ?_
  refine SX.seq ?_
  refine SX.region ?_
  refine SXL.move rfl ?_
  refine SXL.eqlI rfl rfl ?_
  refine SXL.nil ?_
  refine thenQ.normal ?_
  refine SX.condP rfl (fun c17 => ?_) (fun c17 => ?_)
  · exfalso; omega
  refine SX.skip ?_
  refine thenQ.normal ?_
  refine SX.seq ?_
  refine SX.seq ?_
  refine SX.region ?_
  refine SXL.move rfl ?_
  refine SXL.len is_35 rfl ?_
  refine SXL.move rfl ?_
  refine SXL.nil ?_
  refine thenQ.normal ?_
  refine SX.block ?_
  refine SX.loopG (α := Nat) [0, 1, 2, 4, 8, 9, 27, 28] rfl (fun k => [(29, .int .i64 ((k : Int)))]) (fun k => []) (fun k => struckP s 1 i l = struckP s 1 (i + k) l ∧ k ≤ ln) (fun k => ln - k) 0 ⟨rfl, Nat.zero_le _⟩ ⟨rfl, trivial⟩ rfl ?_
  rintro k ⟨hst, hkl⟩
  refine SX.seq ?_
  refine SX.region ?_
  refine SXL.lss rfl rfl ?_
  refine SXL.nil ?_
  refine thenQ.normal ?_
  refine SX.seq ?_
  refine SX.condP rfl (fun c2 => ?_) (fun c2 => ?_)
  · refine SX.skip ?_
    refine thenQ.normal ?_
    refine SX.seq ?_
    refine SX.block ?_
    refine SX.seq ?_
    have hk : i + k < s.reads.length := by omega
    obtain ⟨b, o, ha, hm⟩ := oneI hll (i := k) (by simp; omega)
    have ex : ((numsL s).drop i).getD k 0 = (s.reads.getD (i + k) default).num := by simp [numsL, hk]
    rw [ex] at hm
    refine SX.region ?_
    refine SXL.move rfl ?_
    refine SXL.indexR el_35 rfl rfl ha (by omega) ?_
    refine SXL.load1 sh_3 rfl (hm _) ?_
    refine SXL.assign rfl ?_
    refine SXL.assign rfl ?_
    refine SXL.nil ?_
    refine thenQ.normal ?_
    refine SX.seq ?_
    refine SX.draw 18 (by kernel_rfl) (by kernel_rfl) ⟨[0, 1, 3, 6, 7, 8, 9, 10, 11, 12, 13, 14, 15, 16, 17], [false, false]⟩ ?_
    refine SXA.takeM 0 2 rfl (by kernel_rfl) rfl ?_
    refine SXL.load1 sh_135 rfl (Mem.out1 hst0.fn) ?_
    refine SXL.move rfl ?_
    refine SXL.nil ⟨rfl, rfl, rfl, ?_⟩
    refine SXA.takeM 3 1 rfl (by kernel_rfl) rfl ?_
    refine SXL.move rfl ?_
    refine SXL.nil ⟨rfl, rfl, rfl, ?_⟩
    refine SXA.takeM 6 6 rfl (by kernel_rfl) rfl ?_
    refine SXL.move rfl ?_
    refine SXL.move rfl ?_
    refine SXL.add rfl rfl (by omega) ?_
    refine SXL.sliceL el_35 rfl rfl (by omega) ?_
    refine SXL.move rfl ?_
    refine SXL.sub rfl rfl (by omega) ?_
    refine SXL.nil ⟨rfl, rfl, rfl, ?_⟩
    refine SXA.all [2, 4] (by kernel_rfl) rfl ⟨⟨?_, rfl⟩, ⟨?_, rfl⟩, trivial⟩
    · refine (show SXL _ _ [_] _ _ from ?_)
      refine SXL.callF (IsI l) fn_87 rfl (fun w hI => cloneInts l ao c (by omega) w (hl.inv hI)) ?_; rintro _ _ ⟨r37, o37, rfl, rfl⟩
      refine SXL.nil (stepQ.mk _ rfl rfl ?_)
      refine SXA.all [4] (by kernel_rfl) rfl ⟨⟨?_, rfl⟩, trivial⟩
      refine (show SXL _ _ [_] _ _ from ?_)
      refine SXL.buildSlice et_35 zp_3 rfl rfl rfl rfl ?_; intro b1
      refine SXL.nil (stepQ.mk _ rfl rfl ?_)
      refine SXA.all [5] (by kernel_rfl) rfl ⟨⟨?_, rfl⟩, trivial⟩
      refine (show SXL _ _ [_] _ _ from ?_)
      refine SXL.append 0 ap_35 rfl rfl o37 rfl (.inr ⟨_, _, rfl, Mem.own (i := 1) rfl (takeAt_all _)⟩) rfl rfl ⟨by simp only [maxLen]; omega, by omega⟩ ?_; intro r_40 o_40
      refine SXL.nil (stepQ.mkL _ (by kernel_rfl) rfl rfl ?_)
      refine SXA.all [12] (by kernel_rfl) rfl ⟨⟨?_, rfl⟩, trivial⟩
      refine (show SXL _ _ [_] _ _ from ?_)
      refine SXL.callV (fun v _ => v = .tuple ⟨[r_40.val (l.length + 1), .bool (decide (SpP (wo s (l ++ [(s.reads.getD (i + k) default).num])) ∧ TrueP (wo s (l ++ [(s.reads.getD (i + k) default).num]))))]⟩) fn_86 rfl rfl (fun w hI => strike0 s bo ro bc rc b3 b4 hv (i + k + 1) (l ++ [(s.reads.getD (i + k) default).num]) r_40.addr (l.length + 1) r_40.cap (by simp) (by omega) (cutAddr lao (k + 1) lc 1) (ln - (k + 1)) (lc - (k + 1)) (by omega) (by omega) w (hg.inv hI) (hs.inv hI) (hst0.inv hI) (slOnes hI (l := (l ++ [(s.reads.getD (i + k) default).num])) (by rw [ints_snoc]; exact o_40) (i := 0) (by rw [ints_snoc]; rfl)) (by have := (RowsAt.cut1 hll (i := k + 1) (c := lc) (by simp; omega)).inv hI; rwa [List.drop_drop] at this)) ?_; rintro _ ow rfl
      refine SXL.nil (stepQ.mk _ rfl rfl ?_)
      refine SXA.takeM 13 5 rfl (by kernel_rfl) rfl ?_
      refine SXL.move rfl ?_
      refine SXL.extract rfl rfl ?_
      refine SXL.extract rfl rfl ?_
      refine SXL.assign rfl ?_
      refine SXL.assign rfl ?_
      refine SXL.nil ⟨rfl, rfl, rfl, ?_⟩
      refine SXA.done (by kernel_rfl) ?_
      refine SXL.nil ?_
      refine thenQ.normal ?_
      refine SX.seq ?_
      refine SX.region ?_
      refine SXL.move rfl ?_
      refine SXL.nil ?_
      refine thenQ.normal ?_
      refine SX.condP rfl (fun c50 => ?_) (fun c50 => ?_)
      · refine SX.seq ?_
        refine SX.region ?_
        refine SXL.move rfl ?_
        refine SXL.assign rfl ?_
        refine SXL.assign rfl ?_
        refine SXL.nil ?_
        refine thenQ.normal ?_
        refine SX.ret ?_
        refine blockQ.ret ?_
        refine thenQ.ret ?_
        refine thenQ.ret ?_
        refine blockQ.ret ?_
        refine thenQ.ret ?_
        refine retQ.sel [0] rfl rfl ?_
        refine retQ.two (ResAt.tmp rfl) (ResAt.tmp rfl) ?_
        refine Eq.mp (congrArg (fun c => FrR _ _ [Sl.ent r_40 3 c]) (ints_snoc l (s.reads.getD (i + k) default).num)) ?_
        exact FrR.some (p := True) (hst.trans (by rw [struck_step hk]; simp only [struckP, if_pos c50.2])) (by rw [ints_snoc]; exact o_40) trivial
      · refine SX.skip ?_
        refine blockQ.normal ?_
        refine thenQ.normal ?_
        refine SX.region ?_
        refine SXL.add rfl rfl (by omega) ?_
        refine SXL.move rfl ?_
        refine SXL.nil ?_
        refine thenQ.normal ?_
        refine ⟨k + 1, Meets.mk _ ⟨rfl, trivial⟩ ⟨rfl, rfl, rfl, rfl, rfl, rfl, rfl, rfl, trivial⟩ rfl, ⟨by rw [hst, struck_step hk]; simp only [struckP, if_neg (fun h => c50 ⟨wo_valid hv _, h⟩)]; rfl, by omega⟩, (by omega)⟩
    · refine (show SXL _ _ [_] _ _ from ?_)
      refine SXL.buildSlice et_35 zp_3 rfl rfl rfl rfl ?_; intro b0
      refine SXL.nil (stepQ.mk _ rfl rfl ?_)
      refine SXA.all [2] (by kernel_rfl) rfl ⟨⟨?_, rfl⟩, trivial⟩
      refine (show SXL _ _ [_] _ _ from ?_)
      refine SXL.callF (IsI l) fn_87 rfl (fun w hI => cloneInts l ao c (by omega) w (hl.inv hI)) ?_; rintro _ _ ⟨r37, o37, rfl, rfl⟩
      refine SXL.nil (stepQ.mk _ rfl rfl ?_)
      refine SXA.all [5] (by kernel_rfl) rfl ⟨⟨?_, rfl⟩, trivial⟩
      refine (show SXL _ _ [_] _ _ from ?_)
      refine SXL.append 1 ap_35 rfl rfl o37 rfl (.inr ⟨_, _, rfl, Mem.own (i := 0) rfl (takeAt_all _)⟩) rfl rfl ⟨by simp only [maxLen]; omega, by omega⟩ ?_; intro r_40 o_40
      refine SXL.nil (stepQ.mkL _ (by kernel_rfl) rfl rfl ?_)
      refine SXA.all [12] (by kernel_rfl) rfl ⟨⟨?_, rfl⟩, trivial⟩
      refine (show SXL _ _ [_] _ _ from ?_)
      refine SXL.callV (fun v _ => v = .tuple ⟨[r_40.val (l.length + 1), .bool (decide (SpP (wo s (l ++ [(s.reads.getD (i + k) default).num])) ∧ TrueP (wo s (l ++ [(s.reads.getD (i + k) default).num]))))]⟩) fn_86 rfl rfl (fun w hI => strike0 s bo ro bc rc b3 b4 hv (i + k + 1) (l ++ [(s.reads.getD (i + k) default).num]) r_40.addr (l.length + 1) r_40.cap (by simp) (by omega) (cutAddr lao (k + 1) lc 1) (ln - (k + 1)) (lc - (k + 1)) (by omega) (by omega) w (hg.inv hI) (hs.inv hI) (hst0.inv hI) (slOnes hI (l := (l ++ [(s.reads.getD (i + k) default).num])) (by rw [ints_snoc]; exact o_40) (i := 1) (by rw [ints_snoc]; rfl)) (by have := (RowsAt.cut1 hll (i := k + 1) (c := lc) (by simp; omega)).inv hI; rwa [List.drop_drop] at this)) ?_; rintro _ ow rfl
      refine SXL.nil (stepQ.mk _ rfl rfl ?_)
      refine SXA.takeM 13 5 rfl (by kernel_rfl) rfl ?_
      refine SXL.move rfl ?_
      refine SXL.extract rfl rfl ?_
      refine SXL.extract rfl rfl ?_
      refine SXL.assign rfl ?_
      refine SXL.assign rfl ?_
      refine SXL.nil ⟨rfl, rfl, rfl, ?_⟩
      refine SXA.done (by kernel_rfl) ?_
      refine SXL.nil ?_
      refine thenQ.normal ?_
      refine SX.seq ?_
      refine SX.region ?_
      refine SXL.move rfl ?_
      refine SXL.nil ?_
      refine thenQ.normal ?_
      refine SX.condP rfl (fun c50 => ?_) (fun c50 => ?_)
      · refine SX.seq ?_
        refine SX.region ?_
        refine SXL.move rfl ?_
        refine SXL.assign rfl ?_
        refine SXL.assign rfl ?_
        refine SXL.nil ?_
        refine thenQ.normal ?_
        refine SX.ret ?_
        refine blockQ.ret ?_
        refine thenQ.ret ?_
        refine thenQ.ret ?_
        refine blockQ.ret ?_
        refine thenQ.ret ?_
        refine retQ.sel [1] rfl rfl ?_
        refine retQ.two (ResAt.tmp rfl) (ResAt.tmp rfl) ?_
        refine Eq.mp (congrArg (fun c => FrR _ _ [Sl.ent r_40 3 c]) (ints_snoc l (s.reads.getD (i + k) default).num)) ?_
        exact FrR.some (p := True) (hst.trans (by rw [struck_step hk]; simp only [struckP, if_pos c50.2])) (by rw [ints_snoc]; exact o_40) trivial
      · refine SX.skip ?_
        refine blockQ.normal ?_
        refine thenQ.normal ?_
        refine SX.region ?_
        refine SXL.add rfl rfl (by omega) ?_
        refine SXL.move rfl ?_
        refine SXL.nil ?_
        refine thenQ.normal ?_
        refine ⟨k + 1, Meets.mk _ ⟨rfl, trivial⟩ ⟨rfl, rfl, rfl, rfl, rfl, rfl, rfl, rfl, trivial⟩ rfl, ⟨by rw [hst, struck_step hk]; simp only [struckP, if_neg (fun h => c50 ⟨wo_valid hv _, h⟩)]; rfl, by omega⟩, (by omega)⟩
  · refine SX.exit ?_
    refine thenQ.exit ?_
    refine thenQ.exit ?_
    refine blockQ.exit ?_
    refine thenQ.normal ?_
    refine SX.seq ?_
    refine SX.region ?_
    refine SXL.assign rfl ?_
    refine SXL.assign rfl ?_
    refine SXL.nil ?_
    refine thenQ.normal ?_
    refine SX.ret ?_
    refine retQ.dead [Sl.nil.ent 3 []] rfl ?_
    refine retQ.two (ResAt.tmp rfl) (ResAt.tmp rfl) ?_
    exact FrR.none (hst.trans (struck_done (by omega)))
set_option maxHeartbeats 2000000 in
theorem strike2 (s : Sp) (bo ro : Option Addr) (bc rc : Nat) (b3 b4 : Nat) (hv : SpP s) (i : Nat) (l : List Int) (ao : Option Addr) (n c : Nat) (hn : l.length = n) (hn2 : n + 2 ≤ 1000) (lao : Option Addr) (ln lc : Nat) (hln : ln = s.reads.length - i) (hlc : ln ≤ lc) (w : World) (hg : Gl w) (hs : SpAt w s bo ro) (hst0 : StAt w s bo ro bc rc b3 b4) (hl : RowsAt w ao 1 (ones l)) (hll : RowsAt w lao 1 (ones ((numsL s).drop i))) :
    CallsR Tryd.prog 86 [.slice ao n c, .slice lao ln lc, .int .i64 2, .pointer (some ⟨b3, 0, none⟩), .pointer (some ⟨b4, 0, none⟩)] w (FrR (struckP s 2 i l)) := by
  have hH := hv.1
  unfold HeadP at hH
  refine CallsR.of_SX (n := 53) (rs := [.tmp 8, .tmp 9]) Tryd.func86 rfl rfl rfl rfl ?_
  show SX _ _ _ ⟨[(0, .slice ao n c), (1, .slice lao ln lc), (2, .int .i64 2), (3, .pointer (some ⟨b3, 0, none⟩)), (4, .pointer (some ⟨b4, 0, none⟩))], [], []⟩
  subst hn
  have hnl := length_numsL s
  refine SX.seq ?_
  refine SX.region ?_
  refine SXL.assign rfl ?_
  refine SXL.assign rfl ?_
  refine SXL.nil ?_
  refine thenQ.normal ?_
  refine SX.seq ?_
  refine SX.seq ?_
  refine SX.region ?_
  refine SXL.move rfl ?_
  refine SXL.eqlI rfl rfl ?_
  refine SXL.nil ?_
  refine thenQ.normal ?_
  refine SX.condP rfl (fun c17 => ?_) (fun c17 => ?_)
  · exfalso; omega
  refine SX.skip ?_
  refine thenQ.normal ?_
  refine SX.seq ?_
  refine SX.seq ?_
  refine SX.region ?_
  refine SXL.move rfl ?_
  refine SXL.len is_35 rfl ?_
  refine SXL.move rfl ?_
  refine SXL.nil ?_
  refine thenQ.normal ?_
  refine SX.block ?_
  refine SX.loopG (α := Nat) [0, 1, 2, 4, 8, 9, 27, 28] rfl (fun k => [(29, .int .i64 ((k : Int)))]) (fun k => []) (fun k => struckP s 2 i l = struckP s 2 (i + k) l ∧ k ≤ ln) (fun k => ln - k) 0 ⟨rfl, Nat.zero_le _⟩ ⟨rfl, trivial⟩ rfl ?_
  rintro k ⟨hst, hkl⟩
  refine SX.seq ?_
  refine SX.region ?_
  refine SXL.lss rfl rfl ?_
  refine SXL.nil ?_
  refine thenQ.normal ?_
  refine SX.seq ?_
  refine SX.condP rfl (fun c2 => ?_) (fun c2 => ?_)
  · refine SX.skip ?_
    refine thenQ.normal ?_
    refine SX.seq ?_
    refine SX.block ?_
    refine SX.seq ?_
    have hk : i + k < s.reads.length := by omega
    obtain ⟨b, o, ha, hm⟩ := oneI hll (i := k) (by simp; omega)
    have ex : ((numsL s).drop i).getD k 0 = (s.reads.getD (i + k) default).num := by simp [numsL, hk]
    rw [ex] at hm
    refine SX.region ?_
    refine SXL.move rfl ?_
    refine SXL.indexR el_35 rfl rfl ha (by omega) ?_
    refine SXL.load1 sh_3 rfl (hm _) ?_
    refine SXL.assign rfl ?_
    refine SXL.assign rfl ?_
    refine SXL.nil ?_
    refine thenQ.normal ?_
    refine SX.seq ?_
    refine SX.draw 18 (by kernel_rfl) (by kernel_rfl) ⟨[0, 1, 3, 6, 7, 8, 9, 10, 11, 12, 13, 14, 15, 16, 17], [false, false, false]⟩ ?_
    refine SXA.takeM 0 2 rfl (by kernel_rfl) rfl ?_
    refine SXL.load1 sh_135 rfl (Mem.out1 hst0.fn) ?_
    refine SXL.move rfl ?_
    refine SXL.nil ⟨rfl, rfl, rfl, ?_⟩
    refine SXA.takeM 3 1 rfl (by kernel_rfl) rfl ?_
    refine SXL.move rfl ?_
    refine SXL.nil ⟨rfl, rfl, rfl, ?_⟩
    refine SXA.takeM 6 6 rfl (by kernel_rfl) rfl ?_
    refine SXL.move rfl ?_
    refine SXL.move rfl ?_
    refine SXL.add rfl rfl (by omega) ?_
    refine SXL.sliceL el_35 rfl rfl (by omega) ?_
    refine SXL.move rfl ?_
    refine SXL.sub rfl rfl (by omega) ?_
    refine SXL.nil ⟨rfl, rfl, rfl, ?_⟩
    refine SXA.all [2, 4] (by kernel_rfl) rfl ⟨⟨?_, rfl⟩, ⟨?_, rfl⟩, trivial⟩
    · refine (show SXL _ _ [_] _ _ from ?_)
      refine SXL.callF (IsI l) fn_87 rfl (fun w hI => cloneInts l ao c (by omega) w (hl.inv hI)) ?_; rintro _ _ ⟨r37, o37, rfl, rfl⟩
      refine SXL.nil (stepQ.mk _ rfl rfl ?_)
      refine SXA.all [4] (by kernel_rfl) rfl ⟨⟨?_, rfl⟩, trivial⟩
      refine (show SXL _ _ [_] _ _ from ?_)
      refine SXL.buildSlice et_35 zp_3 rfl rfl rfl rfl ?_; intro b1
      refine SXL.nil (stepQ.mk _ rfl rfl ?_)
      refine SXA.all [5] (by kernel_rfl) rfl ⟨⟨?_, rfl⟩, trivial⟩
      refine (show SXL _ _ [_] _ _ from ?_)
      refine SXL.append 0 ap_35 rfl rfl o37 rfl (.inr ⟨_, _, rfl, Mem.own (i := 1) rfl (takeAt_all _)⟩) rfl rfl ⟨by simp only [maxLen]; omega, by omega⟩ ?_; intro r_40 o_40
      refine SXL.nil (stepQ.mkL _ (by kernel_rfl) rfl rfl ?_)
      refine SXA.all [12] (by kernel_rfl) rfl ⟨⟨?_, rfl⟩, trivial⟩
      refine (show SXL _ _ [_] _ _ from ?_)
      refine SXL.callV (FrR (struckP s 1 (i + k + 1) (l ++ [(s.reads.getD (i + k) default).num]))) fn_86 rfl rfl (fun w hI => strike1 s bo ro bc rc b3 b4 hv (i + k + 1) (l ++ [(s.reads.getD (i + k) default).num]) r_40.addr (l.length + 1) r_40.cap (by simp) (by omega) (cutAddr lao (k + 1) lc 1) (ln - (k + 1)) (lc - (k + 1)) (by omega) (by omega) w (hg.inv hI) (hs.inv hI) (hst0.inv hI) (slOnes hI (l := (l ++ [(s.reads.getD (i + k) default).num])) (by rw [ints_snoc]; exact o_40) (i := 0) (by rw [ints_snoc]; rfl)) (by have := (RowsAt.cut1 hll (i := k + 1) (c := lc) (by simp; omega)).inv hI; rwa [List.drop_drop] at this)) ?_; rintro _ _ ⟨q, oq, rfl, rfl⟩
      refine SXL.nil (stepQ.mk _ rfl rfl ?_)
      refine SXA.takeM 13 5 rfl (by kernel_rfl) rfl ?_
      refine SXL.move rfl ?_
      refine SXL.extract rfl rfl ?_
      refine SXL.extract rfl rfl ?_
      refine SXL.assign rfl ?_
      refine SXL.assign rfl ?_
      refine SXL.nil ⟨rfl, rfl, rfl, ?_⟩
      refine SXA.done (by kernel_rfl) ?_
      refine SXL.nil ?_
      refine thenQ.normal ?_
      refine SX.seq ?_
      refine SX.region ?_
      refine SXL.move rfl ?_
      refine SXL.nil ?_
      refine thenQ.normal ?_
      refine SX.condP rfl (fun c50 => ?_) (fun c50 => ?_)
      · refine SX.seq ?_
        refine SX.region ?_
        refine SXL.move rfl ?_
        refine SXL.assign rfl ?_
        refine SXL.assign rfl ?_
        refine SXL.nil ?_
        refine thenQ.normal ?_
        refine SX.ret ?_
        refine blockQ.ret ?_
        refine thenQ.ret ?_
        refine thenQ.ret ?_
        refine blockQ.ret ?_
        refine thenQ.ret ?_
        refine retQ.sel [2] rfl rfl ?_
        refine retQ.two (ResAt.tmp rfl) (ResAt.tmp rfl) ?_
        exact FrR.some (p := True) (hst.trans (by rw [struck_step hk, isSome_get c50]; rfl)) oq trivial
      · refine SX.skip ?_
        refine blockQ.normal ?_
        refine thenQ.normal ?_
        refine SX.region ?_
        refine SXL.add rfl rfl (by omega) ?_
        refine SXL.move rfl ?_
        refine SXL.nil ?_
        refine thenQ.normal ?_
        refine ⟨k + 1, Meets.mk _ ⟨rfl, trivial⟩ ⟨rfl, rfl, rfl, rfl, rfl, rfl, rfl, rfl, trivial⟩ rfl, ⟨by rw [hst, struck_step hk, isSome_false c50]; rfl, by omega⟩, (by omega)⟩
    · refine (show SXL _ _ [_] _ _ from ?_)
      refine SXL.buildSlice et_35 zp_3 rfl rfl rfl rfl ?_; intro b0
      refine SXL.nil (stepQ.mk _ rfl rfl ?_)
      refine SXA.all [2] (by kernel_rfl) rfl ⟨⟨?_, rfl⟩, trivial⟩
      refine (show SXL _ _ [_] _ _ from ?_)
      refine SXL.callF (IsI l) fn_87 rfl (fun w hI => cloneInts l ao c (by omega) w (hl.inv hI)) ?_; rintro _ _ ⟨r37, o37, rfl, rfl⟩
      refine SXL.nil (stepQ.mk _ rfl rfl ?_)
      refine SXA.all [5] (by kernel_rfl) rfl ⟨⟨?_, rfl⟩, trivial⟩
      refine (show SXL _ _ [_] _ _ from ?_)
      refine SXL.append 1 ap_35 rfl rfl o37 rfl (.inr ⟨_, _, rfl, Mem.own (i := 0) rfl (takeAt_all _)⟩) rfl rfl ⟨by simp only [maxLen]; omega, by omega⟩ ?_; intro r_40 o_40
      refine SXL.nil (stepQ.mkL _ (by kernel_rfl) rfl rfl ?_)
      refine SXA.all [12] (by kernel_rfl) rfl ⟨⟨?_, rfl⟩, trivial⟩
      refine (show SXL _ _ [_] _ _ from ?_)
      refine SXL.callV (FrR (struckP s 1 (i + k + 1) (l ++ [(s.reads.getD (i + k) default).num]))) fn_86 rfl rfl (fun w hI => strike1 s bo ro bc rc b3 b4 hv (i + k + 1) (l ++ [(s.reads.getD (i + k) default).num]) r_40.addr (l.length + 1) r_40.cap (by simp) (by omega) (cutAddr lao (k + 1) lc 1) (ln - (k + 1)) (lc - (k + 1)) (by omega) (by omega) w (hg.inv hI) (hs.inv hI) (hst0.inv hI) (slOnes hI (l := (l ++ [(s.reads.getD (i + k) default).num])) (by rw [ints_snoc]; exact o_40) (i := 1) (by rw [ints_snoc]; rfl)) (by have := (RowsAt.cut1 hll (i := k + 1) (c := lc) (by simp; omega)).inv hI; rwa [List.drop_drop] at this)) ?_; rintro _ _ ⟨q, oq, rfl, rfl⟩
      refine SXL.nil (stepQ.mk _ rfl rfl ?_)
      refine SXA.takeM 13 5 rfl (by kernel_rfl) rfl ?_
      refine SXL.move rfl ?_
      refine SXL.extract rfl rfl ?_
      refine SXL.extract rfl rfl ?_
      refine SXL.assign rfl ?_
      refine SXL.assign rfl ?_
      refine SXL.nil ⟨rfl, rfl, rfl, ?_⟩
      refine SXA.done (by kernel_rfl) ?_
      refine SXL.nil ?_
      refine thenQ.normal ?_
      refine SX.seq ?_
      refine SX.region ?_
      refine SXL.move rfl ?_
      refine SXL.nil ?_
      refine thenQ.normal ?_
      refine SX.condP rfl (fun c50 => ?_) (fun c50 => ?_)
      · refine SX.seq ?_
        refine SX.region ?_
        refine SXL.move rfl ?_
        refine SXL.assign rfl ?_
        refine SXL.assign rfl ?_
        refine SXL.nil ?_
        refine thenQ.normal ?_
        refine SX.ret ?_
        refine blockQ.ret ?_
        refine thenQ.ret ?_
        refine thenQ.ret ?_
        refine blockQ.ret ?_
        refine thenQ.ret ?_
        refine retQ.sel [2] rfl rfl ?_
        refine retQ.two (ResAt.tmp rfl) (ResAt.tmp rfl) ?_
        exact FrR.some (p := True) (hst.trans (by rw [struck_step hk, isSome_get c50]; rfl)) oq trivial
      · refine SX.skip ?_
        refine blockQ.normal ?_
        refine thenQ.normal ?_
        refine SX.region ?_
        refine SXL.add rfl rfl (by omega) ?_
        refine SXL.move rfl ?_
        refine SXL.nil ?_
        refine thenQ.normal ?_
        refine ⟨k + 1, Meets.mk _ ⟨rfl, trivial⟩ ⟨rfl, rfl, rfl, rfl, rfl, rfl, rfl, rfl, trivial⟩ rfl, ⟨by rw [hst, struck_step hk, isSome_false c50]; rfl, by omega⟩, (by omega)⟩
  · refine SX.exit ?_
    refine thenQ.exit ?_
    refine thenQ.exit ?_
    refine blockQ.exit ?_
    refine thenQ.normal ?_
    refine SX.seq ?_
    refine SX.region ?_
    refine SXL.assign rfl ?_
    refine SXL.assign rfl ?_
    refine SXL.nil ?_
    refine thenQ.normal ?_
    refine SX.ret ?_
    refine retQ.dead [Sl.nil.ent 3 []] rfl ?_
    refine retQ.two (ResAt.tmp rfl) (ResAt.tmp rfl) ?_
    exact FrR.none (hst.trans (struck_done (by omega)))
theorem strikeTop (s : Sp) (bo ro : Option Addr) (bc rc b3 b4 : Nat) (hv : SpP s) (m : Nat) (hm : m < 3) (lao : Option Addr) (lc : Nat) (hlc : (numsL s).length ≤ lc) (w : World) (hg : Gl w) (hs : SpAt w s bo ro) (hst0 : StAt w s bo ro bc rc b3 b4) (hll : RowsAt w lao 1 (ones (numsL s))) :
    CallsR Tryd.prog 86 [.slice none 0 0, .slice lao (numsL s).length lc, .int .i64 (m : Int), .pointer (some ⟨b3, 0, none⟩), .pointer (some ⟨b4, 0, none⟩)] w (FrR (struckP s m 0 [])) := by
  have e := length_numsL s
  match m, hm with
  | 0, _ =>
    refine (strike0 s bo ro bc rc b3 b4 hv 0 [] none 0 0 rfl (by omega) lao _ lc (by omega) hlc w hg hs hst0 (.nil _ _ _) hll).own0 fun v e => ?_
    subst e
    simp only [struckP]
    have hv2 := wo_valid hv []
    by_cases h : TrueP (wo s [])
    · rw [if_pos h]; exact ⟨Sl.nil, Sl.Ok.none _, by simp [Sl.val, Sl.nil, Sl.addr, h, hv2], rfl⟩
    · rw [if_neg h]; exact ⟨Sl.nil, Sl.Ok.none _, by simp [Sl.val, Sl.nil, Sl.addr, h], rfl⟩
  | 1, _ => exact strike1 s bo ro bc rc b3 b4 hv 0 [] none 0 0 rfl (by omega) lao _ lc (by omega) hlc w hg hs hst0 (.nil _ _ _) hll
  | 2, _ => exact strike2 s bo ro bc rc b3 b4 hv 0 [] none 0 0 rfl (by omega) lao _ lc (by omega) hlc w hg hs hst0 (.nil _ _ _) hll
set_option maxHeartbeats 2000000 in
theorem swrong_any (s : Sp) (bo ro : Option Addr) (bc rc : Nat) (hb : s.book.length ≤ 1000000) (hr : s.reads.length ≤ 1000000) (w : World) (hg : Gl w) (hs : SpAt w s bo ro) :
    CallsR Tryd.prog 34 [.agg ⟨[.int .i64 s.weeks, .int .i64 s.most, .int .i64 s.fall, .int .i64 s.a0, .int .i64 s.a1, .int .i64 s.w0, .int .i64 s.w1, (.slice bo s.book.length bc), (.slice ro s.reads.length rc)]⟩] w (IsR2 (wrongL s) (wrongE s)) := by
  refine CallsR.of_SX (n := 42) (rs := [.tmp 2, .tmp 3]) Tryd.func34 rfl rfl rfl rfl ?_
  show SX _ _ _ ⟨[(0, .agg ⟨[.int .i64 s.weeks, .int .i64 s.most, .int .i64 s.fall, .int .i64 s.a0, .int .i64 s.a1, .int .i64 s.w0, .int .i64 s.w1, (.slice bo s.book.length bc), (.slice ro s.reads.length rc)]⟩)], [], []⟩
  refine SX.seq ?_
  refine SX.region ?_
  refine SXL.box rfl rfl ?_; intro b0
  refine SXL.assign rfl ?_
  refine SXL.assign rfl ?_
  refine SXL.nil ?_
  refine thenQ.normal ?_
  refine SX.seq ?_
  refine SX.seq ?_
  refine SX.region ?_
  refine SXL.loadNo 0 sh_27 rfl rfl rfl ?_
  refine SXL.call1 (.int .i64 (if SpP s then 0 else 10)) fn_26 rfl (fun w hI => scheck_any s bo ro bc rc hb hr _ (hg.inv hI) (hs.inv hI)) ?_
  refine SXL.assign rfl ?_
  refine SXL.nil ?_
  refine thenQ.normal ?_
  refine SX.seq ?_
  refine SX.region ?_
  refine SXL.move rfl ?_
  refine SXL.neqI rfl rfl ?_
  refine SXL.nil ?_
  refine thenQ.normal ?_
  refine SX.condP rfl (fun c15 => ?_) (fun c15 => ?_)
  · refine SX.seq ?_
    have hv : ¬SpP s := fun h => c15 (by rw [if_pos h])
    refine SX.region ?_
    refine SXL.move rfl ?_
    refine SXL.assign rfl ?_
    refine SXL.assign rfl ?_
    refine SXL.nil ?_
    refine thenQ.normal ?_
    refine SX.ret ?_
    refine thenQ.ret ?_
    refine retQ.dead [Sl.nil.ent 3 []] rfl ?_
    refine retQ.two (ResAt.tmp rfl) (ResAt.tmp rfl) ?_
    rw [if_neg hv, wrongL, if_neg hv, wrongE, if_pos hv]; exact ⟨Sl.nil, Sl.Ok.none _, rfl, rfl⟩
  · refine SX.skip ?_
    refine thenQ.normal ?_
    refine SX.seq ?_
    have hv : SpP s := Decidable.byContradiction fun h => c15 (by rw [if_neg h]; omega)
    have hnl := length_numsL s
    have hH := hv.1
    unfold HeadP at hH
    refine SX.region ?_
    refine SXL.loadNo 0 sh_27 rfl rfl rfl ?_
    refine SXL.callF (IsI (numsL s)) fn_83 rfl (fun w hI => numbers_any s bo ro bc rc hb hr w (hs.inv hI)) ?_; rintro _ _ ⟨q0, o0, rfl, rfl⟩
    refine SXL.assign rfl ?_
    refine SXL.nil ?_
    refine thenQ.normal ?_
    refine SX.seq ?_
    refine SX.seq ?_
    refine SX.region ?_
    refine SXL.loadNo 0 sh_27 rfl rfl rfl ?_
    refine SXL.move rfl ?_
    refine SXL.callF (SpR (wo s (numsL s))) fn_84 rfl (fun w hI => swithout_any s bo ro bc rc (numsL s) q0.addr q0.cap (by omega) hb hr (nums_nodup hv.2.2) w (hs.inv hI) (slOnes hI o0 (i := 1) rfl)) ?_; rintro _ _ ⟨r1, r2, o1, o2, rfl, rfl⟩
    refine SXL.call1 (.tuple ⟨[.bool (decide (SpP (wo s (numsL s)) ∧ TrueP (wo s (numsL s)))), .int .i64 (if SpP (wo s (numsL s)) then 0 else 10)]⟩) fn_18 rfl (fun w hI => scan_any (wo s (numsL s)) r1.addr r2.addr r1.cap r2.cap hb (by have := keepR_len s.reads (numsL s); show (keepR _ _).length ≤ _; omega) _ (hg.inv hI) (spAtOwn hI o1 o2 (i := 2) (j := 3) rfl rfl)) ?_
    refine SXL.move rfl ?_
    refine SXL.extract rfl rfl ?_
    refine SXL.extract rfl rfl ?_
    refine SXL.assign rfl ?_
    refine SXL.assign rfl ?_
    refine SXL.nil ?_
    refine thenQ.normal ?_
    refine SX.seq ?_
    refine SX.region ?_
    refine SXL.move rfl ?_
    refine SXL.not rfl ?_
    refine SXL.nil ?_
    refine thenQ.normal ?_
    refine SX.condP rfl (fun c27 => ?_) (fun c27 => ?_)
    · refine SX.seq ?_
      have hno : ¬TrueP { s with reads := [] } := fun h => c27 ⟨wo_valid hv _, wo_all ▸ h⟩
      refine SX.region ?_
      refine SXL.assign rfl ?_
      refine SXL.assign rfl ?_
      refine SXL.nil ?_
      refine thenQ.normal ?_
      refine SX.ret ?_
      refine thenQ.ret ?_
      refine retQ.dead [Sl.nil.ent 3 []] rfl ?_
      refine retQ.two (ResAt.tmp rfl) (ResAt.tmp rfl) ?_
      rw [wrongL, if_pos hv, wrongE, if_neg (not_not_intro hv), wrong_none hv hno, if_neg (by simp), if_pos hno]; exact ⟨Sl.nil, Sl.Ok.none _, rfl, rfl⟩
    · refine SX.skip ?_
      refine thenQ.normal ?_
      refine SX.seq ?_
      refine SX.region ?_
      refine SXL.alloc zp_135 ?_; intro b4
      refine SXL.nil ?_
      refine thenQ.normal ?_
      refine SX.seq ?_
      refine SX.region ?_
      refine SXL.makeFunc rfl rfl ?_
      refine SXL.store 4 sz_135 rfl rfl rfl rfl rfl rfl ?_
      refine SXL.nil ?_
      refine thenQ.normal ?_
      refine SX.seq ?_
      refine SX.seq ?_
      refine SX.region ?_
      refine SXL.move rfl ?_
      refine SXL.nil ?_
      refine thenQ.normal ?_
      refine SX.block ?_
      refine SX.loopG (α := Nat) [2, 3, 5, 8] rfl (fun m => [(29, .int .i64 ((m : Int)))]) (fun m => []) (fun m => m ≤ 3 ∧ ∀ k, k < m → struckP s k 0 [] = none) (fun m => 3 - m) 0 ⟨by omega, fun k h => absurd h (Nat.not_lt_zero _)⟩ ⟨rfl, trivial⟩ rfl ?_
      rintro m ⟨hm3, hall⟩
      refine SX.seq ?_
      refine SX.region ?_
      refine SXL.lss rfl rfl ?_
      refine SXL.nil ?_
      refine thenQ.normal ?_
      refine SX.seq ?_
      refine SX.condP rfl (fun c3 => ?_) (fun c3 => ?_)
      · refine SX.skip ?_
        refine thenQ.normal ?_
        refine SX.seq ?_
        refine SX.block ?_
        refine SX.seq ?_
        refine SX.region ?_
        refine SXL.move rfl ?_
        refine SXL.assign rfl ?_
        refine SXL.nil ?_
        refine thenQ.normal ?_
        refine SX.seq ?_
        refine SX.region ?_
        refine SXL.load1o 4 sh_135 rfl rfl rfl ?_
        refine SXL.move rfl ?_
        refine SXL.move rfl ?_
        refine SXL.callV (FrR (struckP s m 0 [])) fn_86 rfl rfl (fun w hI => strikeTop s bo ro bc rc b0 b4 hv m (by omega) q0.addr q0.cap o0.cap w (hg.inv hI) (hs.inv hI) ⟨fun j v hj => by rw [Nat.zero_add]; exact ownCell hI (i := 0) rfl hj, ownCell hI (i := 4) (j := 0) rfl rfl⟩ (slOnes hI o0 (i := 1) rfl)) ?_; rintro _ _ ⟨q, oq, rfl, rfl⟩
        refine SXL.move rfl ?_
        refine SXL.extract rfl rfl ?_
        refine SXL.extract rfl rfl ?_
        refine SXL.assign rfl ?_
        refine SXL.assign rfl ?_
        refine SXL.nil ?_
        refine thenQ.normal ?_
        refine SX.seq ?_
        refine SX.region ?_
        refine SXL.move rfl ?_
        refine SXL.nil ?_
        refine thenQ.normal ?_
        refine SX.condP rfl (fun c39 => ?_) (fun c39 => ?_)
        · refine SX.seq ?_
          refine SX.region ?_
          refine SXL.move rfl ?_
          refine SXL.assign rfl ?_
          refine SXL.assign rfl ?_
          refine SXL.nil ?_
          refine thenQ.normal ?_
          refine SX.ret ?_
          refine blockQ.ret ?_
          refine thenQ.ret ?_
          refine thenQ.ret ?_
          refine blockQ.ret ?_
          refine thenQ.ret ?_
          refine retQ.sel [5] rfl rfl ?_
          refine retQ.two (ResAt.tmp rfl) (ResAt.tmp rfl) ?_
          have hw := wrongF_at (by omega) hall (isSome_get c39)
          rw [wrongL, if_pos hv, hw, wrongE, if_neg (not_not_intro hv), hw]; exact ⟨q, oq, rfl, rfl⟩
        · refine SX.skip ?_
          refine blockQ.normal ?_
          refine thenQ.normal ?_
          refine SX.region ?_
          refine SXL.add rfl rfl (by omega) ?_
          refine SXL.move rfl ?_
          refine SXL.nil ?_
          refine thenQ.normal ?_
          refine ⟨m + 1, Meets.mk _ ⟨rfl, trivial⟩ ⟨rfl, rfl, rfl, rfl, trivial⟩ rfl, ⟨by omega, fun k hk => by
            by_cases e : k = m
            · subst e; exact isSome_false c39
            · exact hall k (by omega)⟩, (by omega)⟩
      · refine SX.exit ?_
        refine thenQ.exit ?_
        refine thenQ.exit ?_
        refine blockQ.exit ?_
        refine thenQ.normal ?_
        refine SX.seq ?_
        have hnone : wrongF s = none := wrongF_no fun k hk => hall k (by omega)
        have hyes : TrueP { s with reads := [] } := wo_all ▸ (Decidable.not_not.1 c27).2
        refine SX.region ?_
        refine SXL.assign rfl ?_
        refine SXL.assign rfl ?_
        refine SXL.nil ?_
        refine thenQ.normal ?_
        refine SX.ret ?_
        refine retQ.dead [Sl.nil.ent 3 []] rfl ?_
        refine retQ.two (ResAt.tmp rfl) (ResAt.tmp rfl) ?_
        rw [wrongL, if_pos hv, wrongE, if_neg (not_not_intro hv), hnone, if_neg (by simp), if_neg (not_not_intro hyes)]; exact ⟨Sl.nil, Sl.Ok.none _, rfl, rfl⟩
end Go.Proofs.YtknflipongbngaaDoor

/- How long lists are that are handed back. Nothing of Go stands here. -/
namespace Go.S
theorem struckFrom_len {s : Sp} {rec : Nat → List Int → Option (List Int)} {l : List Int} {m : Nat} (hrec : ∀ i l r, rec i l = some r → r.length = l.length + m) : ∀ (f i : Nat) {r : List Int}, struckFrom rec s l i f = some r → r.length = l.length + (m + 1)
  | 0, _, _, h => by cases h
  | f + 1, i, r, h => by
    simp only [struckFrom] at h
    split at h
    · rename_i r' hr
      have := hrec _ _ _ hr
      obtain rfl := Option.some.inj h
      rw [this]; simp; omega
    · exact struckFrom_len hrec f (i + 1) h
theorem struck_len {s : Sp} : ∀ (m i : Nat) (l : List Int) {r : List Int}, struckP s m i l = some r → r.length = l.length + m
  | 0, _, l, r, h => by
    simp only [struckP] at h
    split at h
    · obtain rfl := Option.some.inj h; rfl
    · cases h
  | m + 1, i, l, r, h => struckFrom_len (fun i l r h => struck_len m i l h) _ _ h
theorem wrongF_len {s : Sp} {r : List Int} (h : wrongF s = some r) : r.length ≤ 2 := by
  unfold wrongF at h
  split at h
  · rename_i r' hr
    obtain rfl := Option.some.inj h
    have := struck_len 0 0 [] hr; simp only [List.length_nil] at this; omega
  · split at h
    · rename_i r' hr
      obtain rfl := Option.some.inj h
      have := struck_len 1 0 [] hr; simp only [List.length_nil] at this; omega
    · have := struck_len 2 0 [] h; simp only [List.length_nil] at this; omega
theorem wrongL_len (s : Sp) : (wrongL s).length ≤ 2 := by
  unfold wrongL
  split
  · cases h : wrongF s with
    | none => simp
    | some r => exact wrongF_len h
  · simp
theorem restsL_len (s : Sp) (week : Int) : (restsL s week).length ≤ s.reads.length := by
  unfold restsL
  split
  · exact restsTo_len _ _ _
  · simp
end Go.S

/- The calculus' rules: '==' on bools. Nothing of the program stands here. -/
namespace Go.X
open Go Go.RowKit
def isBoolP (P : Program) (t : TypeId) : Bool := match P.underlying t with | some .bool => true | _ => false
theorem run_equal_bool {P : Program} {T : TypeId} {w : World} (h : isBoolP P T = true) (a b : Bool) : (Op.equal T (.bool a) (.bool b)).run P w = .ok (a == b) w := by
  unfold isBoolP at h
  split at h
  · rename_i hu
    show (Op.equalIn (9999 + 1) T (.bool a) (.bool b)).run P w = _
    unfold Op.equalIn
    simp [run_underlying hu, Result.andThen]
  · cases h
section
variable {C : Cx} {Q : Post} {env : Env} {own : Own} {D : List Deferred} {ops : Array Oper} {rest : List Oper}
variable {d : Nat} {ty : TypeId} {pos : String} {aft : Array Edge} {g : Option (Nat × Bool)} {x y : Operand} {T T' : TypeId} {p q : Prop} [Decidable p] [Decidable q]
theorem SXL.eqlB (hT : isBoolP C.P T = true) (hx : ev env x = some (.bool (decide p))) (hy : ev env y = some (.bool (decide q)))
    (h : SXL C ops rest Q ⟨(d, .bool (decide (p ↔ q))) :: env, own, D⟩) (hd : Nat.blt d C.n = true := by rfl) (hw : Wanted ops g env = some true := by rfl) :
    SXL C ops ({ dst := some d, op := .binOp .eql T x y T', type := ty, pos, after := aft, guard := g } :: rest) Q ⟨env, own, D⟩ :=
  SXL.bin hx hy (r := .bool (decide (p ↔ q))) (fun w => by by_cases hp : p <;> by_cases hq : q <;> simp [eqGuard, binOp, hp, hq, run_equal_bool hT, Result.andThen]) hd hw h
theorem SXL.neqB (hT : isBoolP C.P T = true) (hx : ev env x = some (.bool (decide p))) (hy : ev env y = some (.bool (decide q)))
    (h : SXL C ops rest Q ⟨(d, .bool (decide (¬(p ↔ q)))) :: env, own, D⟩) (hd : Nat.blt d C.n = true := by rfl) (hw : Wanted ops g env = some true := by rfl) :
    SXL C ops ({ dst := some d, op := .binOp .neq T x y T', type := ty, pos, after := aft, guard := g } :: rest) Q ⟨env, own, D⟩ :=
  SXL.bin hx hy (r := .bool (decide (¬(p ↔ q)))) (fun w => by by_cases hp : p <;> by_cases hq : q <;> simp [eqGuard, binOp, hp, hq, run_equal_bool hT, Result.andThen]) hd hw h
end
end Go.X

/- The walks of functions. -/
namespace Go.Proofs.YtknflipongbngaaDoor
open Go.X Go.S Go.RowKit
set_option maxHeartbeats 4000000 in
theorem reads_law (s : Sp) (bo ro : Option Addr) (bc rc : Nat) (x : Rd) (week : Int) (w : World) (hg : Gl w) (hs : SpAt w s bo ro) :
    CallsR Tryd.prog 4 [.agg ⟨[.int .i64 s.weeks, .int .i64 s.most, .int .i64 s.fall, .int .i64 s.a0, .int .i64 s.a1, .int .i64 s.w0, .int .i64 s.w1, (.slice bo s.book.length bc), (.slice ro s.reads.length rc)]⟩, .agg ⟨x.cells⟩, .int .i64 week] w (fun v _ => v = .bool true) := by
  refine CallsR.of_SX (n := 91) (rs := [.tmp 6]) Tryd.func4 rfl rfl rfl rfl ?_
  show SX _ _ _ ⟨[(0, .agg ⟨[.int .i64 s.weeks, .int .i64 s.most, .int .i64 s.fall, .int .i64 s.a0, .int .i64 s.a1, .int .i64 s.w0, .int .i64 s.w1, (.slice bo s.book.length bc), (.slice ro s.reads.length rc)]⟩), (1, .agg ⟨x.cells⟩), (2, .int .i64 week)], [], []⟩
  refine SX.seq ?_
  refine SX.region ?_
  refine SXL.box rfl rfl ?_; intro b0
  refine SXL.box rfl rfl ?_; intro b1
  refine SXL.assign rfl ?_
  refine SXL.nil ?_
  refine thenQ.normal ?_
  refine SX.seq ?_
  refine SX.seq ?_
  refine SX.region ?_
  refine SXL.loadNo 0 sh_27 rfl rfl rfl ?_
  refine SXL.call1 (.bool (decide ((30 : Int) < (s.book.length : Int) ∨ (30 : Int) < (s.reads.length : Int)))) fn_16 rfl (fun w hI => great_any s bo ro bc rc _) ?_
  refine SXL.nil ?_
  refine thenQ.normal ?_
  refine SX.condP rfl (fun c21 => ?_) (fun c21 => ?_)
  · refine SX.seq ?_
    refine SX.region ?_
    refine SXL.assign rfl ?_
    refine SXL.nil ?_
    refine thenQ.normal ?_
    refine SX.ret ?_
    refine thenQ.ret ?_
    refine retQ.dead [] rfl ?_
    refine retQ.one (ResAt.tmp rfl) ?_
    first | rfl | simp
  · refine SX.skip ?_
    refine thenQ.normal ?_
    refine SX.seq ?_
    have hw1 := wrongL_len s
    have hw2 := restsL_len s week
    refine SX.region ?_
    refine SXL.loadNo 0 sh_27 rfl rfl rfl ?_
    refine SXL.callF (SpR s) fn_17 rfl (fun w hI => twin_any s bo ro bc rc (by omega) (by omega) w (hs.inv hI)) ?_; rintro _ _ ⟨r1, r2, o1, o2, rfl, rfl⟩
    refine SXL.alloc zp_27 ?_; intro b4
    refine SXL.store 4 sz_27 rfl rfl rfl rfl rfl rfl ?_
    refine SXL.nil ?_
    refine thenQ.normal ?_
    refine SX.seq ?_
    refine SX.region ?_
    refine SXL.loadNo 4 sh_27 rfl rfl rfl ?_
    refine SXL.loadNo 1 sh_54 rfl rfl rfl ?_
    refine SXL.call1 (.tuple ⟨[.agg ⟨[.int .i64 ((readLo s x)), .int .i64 ((readHi s x))]⟩, .int .i64 (readE s x)]⟩) fn_30 rfl (fun w hI => sread_any s r1.addr r2.addr r1.cap r2.cap x (by omega) (by omega) _ (hg.inv hI) (spAtOwn hI o1 o2 (i := 2) (j := 3) rfl rfl)) ?_
    refine SXL.move rfl ?_
    refine SXL.extract rfl rfl ?_
    refine SXL.extract rfl rfl ?_
    refine SXL.alloc zp_23 ?_; intro b5
    refine SXL.store 5 sz_23 rfl rfl rfl rfl rfl rfl ?_
    refine SXL.assign rfl ?_
    refine SXL.nil ?_
    refine thenQ.normal ?_
    refine SX.seq ?_
    refine SX.region ?_
    refine SXL.loadNo 0 sh_27 rfl rfl rfl ?_
    refine SXL.loadNo 1 sh_54 rfl rfl rfl ?_
    refine SXL.call1 (.tuple ⟨[.agg ⟨[.int .i64 ((readLo s x)), .int .i64 ((readHi s x))]⟩, .int .i64 (readE s x)]⟩) fn_31 rfl (fun w hI => rread_any s bo ro bc rc x _ (hs.inv hI)) ?_
    refine SXL.move rfl ?_
    refine SXL.extract rfl rfl ?_
    refine SXL.extract rfl rfl ?_
    refine SXL.alloc zp_23 ?_; intro b6
    refine SXL.store 6 sz_23 rfl rfl rfl rfl rfl rfl ?_
    refine SXL.assign rfl ?_
    refine SXL.nil ?_
    refine thenQ.normal ?_
    refine SX.seq ?_
    refine SX.region ?_
    refine SXL.loadNo 4 sh_27 rfl rfl rfl ?_
    refine SXL.move rfl ?_
    refine SXL.callF (IsR2 (restsL s week) (toldE s week)) fn_32 rfl (fun w hI => srests_any s r1.addr r2.addr r1.cap r2.cap week (by omega) (by omega) w (hg.inv hI) (spAtOwn hI o1 o2 (i := 2) (j := 3) rfl rfl)) ?_; rintro _ _ ⟨q1, u1, rfl, rfl⟩
    refine SXL.move rfl ?_
    refine SXL.extract rfl rfl ?_
    refine SXL.extract rfl rfl ?_
    refine SXL.assign rfl ?_
    refine SXL.assign rfl ?_
    refine SXL.nil ?_
    refine thenQ.normal ?_
    refine SX.seq ?_
    refine SX.region ?_
    refine SXL.loadNo 0 sh_27 rfl rfl rfl ?_
    refine SXL.move rfl ?_
    refine SXL.callF (IsR2 (restsL s week) (toldE s week)) fn_33 rfl (fun w hI => rrests_any s bo ro bc rc week w (hs.inv hI)) ?_; rintro _ _ ⟨q2, u2, rfl, rfl⟩
    refine SXL.move rfl ?_
    refine SXL.extract rfl rfl ?_
    refine SXL.extract rfl rfl ?_
    refine SXL.assign rfl ?_
    refine SXL.assign rfl ?_
    refine SXL.nil ?_
    refine thenQ.normal ?_
    refine SX.seq ?_
    refine SX.region ?_
    refine SXL.loadNo 4 sh_27 rfl rfl rfl ?_
    refine SXL.callF (IsR2 (wrongL s) (wrongE s)) fn_34 rfl (fun w hI => swrong_any s r1.addr r2.addr r1.cap r2.cap (by omega) (by omega) w (hg.inv hI) (spAtOwn hI o1 o2 (i := 2) (j := 3) rfl rfl)) ?_; rintro _ _ ⟨q3, u3, rfl, rfl⟩
    refine SXL.move rfl ?_
    refine SXL.extract rfl rfl ?_
    refine SXL.extract rfl rfl ?_
    refine SXL.assign rfl ?_
    refine SXL.assign rfl ?_
    refine SXL.nil ?_
    refine thenQ.normal ?_
    refine SX.seq ?_
    refine SX.region ?_
    refine SXL.loadNo 0 sh_27 rfl rfl rfl ?_
    refine SXL.callF (IsR2 (wrongL s) (wrongE s)) fn_35 rfl (fun w hI => rwrong_any s bo ro bc rc w (hs.inv hI)) ?_; rintro _ _ ⟨q4, u4, rfl, rfl⟩
    refine SXL.move rfl ?_
    refine SXL.extract rfl rfl ?_
    refine SXL.extract rfl rfl ?_
    refine SXL.assign rfl ?_
    refine SXL.assign rfl ?_
    refine SXL.nil ?_
    refine thenQ.normal ?_
    refine SX.seq ?_
    refine SX.region ?_
    refine SXL.loadNo 5 sh_23 rfl rfl rfl ?_
    refine SXL.loadNo 6 sh_23 rfl rfl rfl ?_
    refine SXL.eqlV (p := [readLo s x, readHi s x] = [readLo s x, readHi s x]) (u := .agg ⟨ints ([readLo s x, readHi s x])⟩) (v := .agg ⟨ints ([readLo s x, readHi s x])⟩) rfl rfl (run_eql_ints eq_23 eg_23 sh_23 rfl rfl) ?_
    refine SXL.move rfl ?_
    apply SXL.andG 3
    case hl => exact rfl
    case hd => exact rfl
    case hg => exact rfl
    case ht =>
      intro g2
      refine SXL.move rfl ?_
      refine SXL.move rfl ?_
      refine SXL.eqlI rfl rfl ?_
      exact SXL.nil (segQ.mk (.skip rfl (.skip rfl (.skip rfl (.skip rfl (EnvSub.refl _))))) rfl rfl ⟨rfl, rfl⟩)
    case hf =>
      intro g2
      refine SXL.pass rfl rfl rfl ?_
      refine SXL.pass rfl rfl rfl ?_
      refine SXL.pass rfl rfl rfl ?_
      exact SXL.nil (segQ.mk (.skip rfl (.skip rfl (.skip rfl (.skip rfl (EnvSub.refl _))))) rfl rfl rfl)
    refine SXL.move rfl ?_
    apply SXL.andG 3
    case hl => exact rfl
    case hd => exact rfl
    case hg => exact rfl
    case ht =>
      intro g3
      refine SXL.move rfl ?_
      refine SXL.move rfl ?_
      refine SXL.call1 (.bool (decide (restsL s week = restsL s week))) fn_28 rfl (fun w hI => sameInts_any (restsL s week) (restsL s week) q1.addr q2.addr q1.cap q2.cap (by omega) _ (slOnes hI u1 (i := 7) rfl) (slOnes hI u2 (i := 8) rfl)) ?_
      exact SXL.nil (segQ.mk (.skip rfl (.skip rfl (.skip rfl (.skip rfl (EnvSub.refl _))))) rfl rfl ⟨rfl, rfl⟩)
    case hf =>
      intro g3
      refine SXL.pass rfl rfl rfl ?_
      refine SXL.pass rfl rfl rfl ?_
      refine SXL.pass rfl rfl rfl ?_
      exact SXL.nil (segQ.mk (.skip rfl (.skip rfl (.skip rfl (.skip rfl (EnvSub.refl _))))) rfl rfl rfl)
    refine SXL.move rfl ?_
    apply SXL.andG 3
    case hl => exact rfl
    case hd => exact rfl
    case hg => exact rfl
    case ht =>
      intro g4
      refine SXL.move rfl ?_
      refine SXL.move rfl ?_
      refine SXL.eqlI rfl rfl ?_
      exact SXL.nil (segQ.mk (.skip rfl (.skip rfl (.skip rfl (.skip rfl (EnvSub.refl _))))) rfl rfl ⟨rfl, rfl⟩)
    case hf =>
      intro g4
      refine SXL.pass rfl rfl rfl ?_
      refine SXL.pass rfl rfl rfl ?_
      refine SXL.pass rfl rfl rfl ?_
      exact SXL.nil (segQ.mk (.skip rfl (.skip rfl (.skip rfl (.skip rfl (EnvSub.refl _))))) rfl rfl rfl)
    refine SXL.move rfl ?_
    apply SXL.andG 3
    case hl => exact rfl
    case hd => exact rfl
    case hg => exact rfl
    case ht =>
      intro g5
      refine SXL.move rfl ?_
      refine SXL.move rfl ?_
      refine SXL.call1 (.bool (decide (wrongL s = wrongL s))) fn_28 rfl (fun w hI => sameInts_any (wrongL s) (wrongL s) q3.addr q4.addr q3.cap q4.cap (by omega) _ (slOnes hI u3 (i := 9) rfl) (slOnes hI u4 (i := 10) rfl)) ?_
      exact SXL.nil (segQ.mk (.skip rfl (.skip rfl (.skip rfl (.skip rfl (EnvSub.refl _))))) rfl rfl ⟨rfl, rfl⟩)
    case hf =>
      intro g5
      refine SXL.pass rfl rfl rfl ?_
      refine SXL.pass rfl rfl rfl ?_
      refine SXL.pass rfl rfl rfl ?_
      exact SXL.nil (segQ.mk (.skip rfl (.skip rfl (.skip rfl (.skip rfl (EnvSub.refl _))))) rfl rfl rfl)
    refine SXL.move rfl ?_
    apply SXL.andG 3
    case hl => exact rfl
    case hd => exact rfl
    case hg => exact rfl
    case ht =>
      intro g6
      refine SXL.move rfl ?_
      refine SXL.move rfl ?_
      refine SXL.eqlI rfl rfl ?_
      exact SXL.nil (segQ.mk (.skip rfl (.skip rfl (.skip rfl (.skip rfl (EnvSub.refl _))))) rfl rfl ⟨rfl, rfl⟩)
    case hf =>
      intro g6
      refine SXL.pass rfl rfl rfl ?_
      refine SXL.pass rfl rfl rfl ?_
      refine SXL.pass rfl rfl rfl ?_
      exact SXL.nil (segQ.mk (.skip rfl (.skip rfl (.skip rfl (.skip rfl (EnvSub.refl _))))) rfl rfl rfl)
    refine SXL.move rfl ?_
    apply SXL.andG 3
    case hl => exact rfl
    case hd => exact rfl
    case hg => exact rfl
    case ht =>
      intro g7
      refine SXL.loadNo 4 sh_27 rfl rfl rfl ?_
      refine SXL.loadNo 0 sh_27 rfl rfl rfl ?_
      refine SXL.call1 (.bool (decide (s = s))) fn_29 rfl (fun w hI => same_any s s r1.addr r2.addr bo ro r1.cap r2.cap bc rc (by omega) (by omega) _ (spAtOwn hI o1 o2 (i := 2) (j := 3) rfl rfl) (hs.inv hI)) ?_
      exact SXL.nil (segQ.mk (.skip rfl (.skip rfl (.skip rfl (.skip rfl (EnvSub.refl _))))) rfl rfl ⟨rfl, rfl⟩)
    case hf =>
      intro g7
      refine SXL.pass rfl rfl rfl ?_
      refine SXL.pass rfl rfl rfl ?_
      refine SXL.pass rfl rfl rfl ?_
      exact SXL.nil (segQ.mk (.skip rfl (.skip rfl (.skip rfl (.skip rfl (EnvSub.refl _))))) rfl rfl rfl)
    refine SXL.assign rfl ?_
    refine SXL.nil ?_
    refine thenQ.normal ?_
    refine SX.ret ?_
    refine retQ.dead [] rfl ?_
    refine retQ.one (ResAt.tmp rfl) ?_
    first | rfl | simp
end Go.Proofs.YtknflipongbngaaDoor

/- SpringReads: whatever the input, the law returns true and the input reads as it did. Its condition: the package's variables are as the program's text lays them (the card ties them). -/
namespace Go.Proofs.YtknflipongbngaaDoor.SpringReads
open Go Go.X Go.S Go.RowKit Go.ChangeShapes Go.WideShapes Go.ChangeAt
set_option maxRecDepth 100000
/-- The door's own heap meets the condition. -/
theorem door_met (os : Os) (args : Array Value) : laidMetH Tryd.prog Rows.springReadsRow.laid ((World.doorLaid Tryd.prog 24 os).forCall (fun _ _ => 0) ⟨#[], args, []⟩).memory :=
  laidMetH_of_parts3 (fuel := 8) (laidMet_of_run' 8 (by kernel_rfl) (by kernel_rfl)) (by kernel_rfl) (by kernel_rfl)
theorem spec_fn (H : Type) (ds : List (DataW H)) (h : ds.length = Tryd.f4.params.toList.length) : Rows.springReadsSpec.fn H ds = { results := [.lit (.bool true)], args := ds } := by
  rw [Tryd.params4] at h
  match ds, h with
  | [e0, e1, e2], _ => rfl
theorem contract (H : Type) (enc : TypeId × Value → H) (W : World) (base : Nat) (args : Array Value) (ds gs : List (DataW H)) (before : List MemPlace)
    (hval : ∀ (j : Nat) t v, Tryd.f4.params[j]? = some t → args[j]? = some v → Value.okWide Tryd.prog W .any base t v)
    (hW : DataW.Whole enc Tryd.prog Tryd.f4.params.toList Rows.springReadsSpec.vars false W args.toList ds gs before) (hL : laidMetH Tryd.prog Rows.springReadsRow.laid W) :
    Calls Tryd.prog 4 args W fun e W' => ∃ v, e = .returned v ∧ Rows.springReadsSpec.post enc Tryd.prog Tryd.f4 false true false false W args v W' := by
  have hW' := hW
  obtain ⟨p, q, hA0, hV, rfl, hfz, hnd⟩ := hW
  have hA : DataW.TrodAll enc Tryd.prog W 0 (fun _ => true) true Tryd.f4.params.toList args.toList ds p := hA0
  rw [Tryd.params4] at hA hval
  obtain ⟨v0, vs0, d0, ds0, p0, q0, hv0, rfl, hp0, h0, r0⟩ := trodAll_cons hA
  obtain ⟨v1, vs1, d1, ds1, p1, q1, hv1, rfl, hp1, h1, r1⟩ := trodAll_cons r0
  obtain ⟨v2, vs2, d2, ds2, p2, q2, hv2, rfl, hp2, h2, r2⟩ := trodAll_cons r1
  obtain ⟨hvn, rfl, hpn⟩ := trodAll_nil r2
  have hargs : args = #[v0, v1, v2] := by cases args; simp_all
  subst hargs
  obtain ⟨cs0, rfl, hf0⟩ := arg_struct lay27 ⟨_, Tryd.underlying27⟩ (hval 0 27 _ rfl rfl) h0
  obtain ⟨s, bo, ro, bc, rc, rfl, hs⟩ := sp_of_fits hf0
  obtain ⟨cx1, rfl, hfx1⟩ := arg_struct lay54 ⟨_, Tryd.underlying54⟩ (hval 1 54 _ rfl rfl) h1
  obtain ⟨a1, b1, c1, e1, f1, rfl⟩ := fits5 hfx1
  obtain ⟨x, hx⟩ : ∃ x : Rd, x = ⟨a1, b1, c1, e1, f1⟩ := ⟨_, rfl⟩
  obtain ⟨week, rfl, bweek⟩ := fit_i64 (arg_cell lay3 (by kernel_rfl) (hval 2 3 _ rfl rfl) h2)
  have hg : Gl W := ⟨checks_of_laid hL (by simp [Rows.springReadsRow]), none_of_laid hL rfl⟩
  refine Calls.mono (show Calls Tryd.prog 4 _ W _ from reads_law s bo ro bc rc ⟨a1, b1, c1, e1, f1⟩ week W hg hs) ?_
  rintro e W' ⟨v, own, rfl, hI, rfl⟩
  exact ⟨_, rfl, law_post laidOut (by rw [Tryd.params4]; kernel_rfl) rfl (spec_fn H) (tb := 4) (by kernel_rfl) Tryd.underlying4 hW' hI.below⟩
theorem lifted (os : Os) (started : os.Started) (H : Type) (enc : TypeId × Value → H) :
    ReturnsInHanded {} Tryd.checked os 4 .any (fun w args => (Rows.springReadsSpec.pre enc Tryd.prog Tryd.f4 [] false w args ∧ laidMetH Tryd.prog Rows.springReadsRow.laid w) ∧ sizedMet enc Tryd.prog Tryd.f4 (OpenSpec.ofChange Rows.springReadsSpec) false w args)
      (Rows.springReadsSpec.post enc Tryd.prog Tryd.f4 false true false false) := by
  refine returnsInHanded_of_change_and (C := Tryd.checked) (X := fun w _ => laidMetH Tryd.prog Rows.springReadsRow.laid w) (fun _ _ _ hh h => h.of_heap hh) ownGd started (by kernel_rfl) Tryd.func4
    (ChangeSpec.witness_shaped (enc := enc) (C := Tryd.checked) (os := os) (X := fun w _ => laidMetH Tryd.prog Rows.springReadsRow.laid w) false (World.doorLaid Tryd.prog 24 os) #[.agg ⟨[.int .i64 0, .int .i64 0, .int .i64 0, .int .i64 0, .int .i64 0, .int .i64 0, .int .i64 0, .slice none 0 0, .slice none 0 0]⟩, .agg ⟨[.int .i64 0, .int .i64 0, .int .i64 0, .int .i64 0, .int .i64 0]⟩, .int .i64 0] 8 rfl (World.shaped_of_RefB (by kernel_rfl) (by kernel_rfl)) (by kernel_rfl) (by kernel_rfl) (by kernel_rfl) (door_met os _)) ?_
  intro W base args ds gs before hval0 hW _ _ hL _
  exact contract H enc W base args ds gs before hval0 hW hL
theorem said : Rows.SpringReadsSaid :=
  OpenClaim.holds_of_wide 4 Tryd.f4 rfl rfl rfl rfl rfl rfl rfl ⟨rfl, rfl, rfl, rfl, rfl⟩ rfl rfl rfl rfl rfl (by kernel_rfl) Tryd.func4 (by kernel_rfl)
    (of_decide_eq_true (by kernel_rfl)) (by unfold Func.isWrapper; first | (rw [if_pos (by decide +kernel)]; kernel_rfl) | (rw [if_neg (by decide +kernel)]; exact ⟨rfl, rfl⟩))
    (fun os started H enc _ => lifted os started H enc)
theorem plain (f : FuncId) (fn : Func) (hf : Tryd.pinned.checked.prog.funcNamed "aguador/aguadorlaw01.SpringReads" = some f) (hfn : Tryd.pinned.checked.prog.funcs[f]? = some fn) :
    false = Tryd.pinned.checked.prog.looks [] ∧ ∀ (j : Nat) t, fn.params[j]? = some t → Tryd.pinned.checked.prog.wantsStandIn t = false := by
  obtain rfl : f = 4 := Option.some.inj ((show Tryd.prog.funcNamed "aguador/aguadorlaw01.SpringReads" = some 4 by kernel_rfl).symm.trans hf) |>.symm
  obtain rfl : fn = Tryd.f4 := (Option.some.inj (Tryd.func4.symm.trans hfn)).symm
  refine ⟨by kernel_rfl, fun j t ht => ?_⟩
  rw [Tryd.params4] at ht
  have hm : t ∈ ([27, 54, 3] : List TypeId) := by simpa using Array.mem_of_getElem? ht
  have hall : (([27, 54, 3] : List TypeId).all fun u => !Tryd.prog.wantsStandIn u) = true := by kernel_rfl
  exact (show Tryd.prog.wantsStandIn t = false by simpa using List.all_eq_true.1 hall t hm)
theorem springReads_card : Rows.SpringReadsCardSaid :=
  Claim7.holds_tied_plain_at .later [] _ _ _ _ said (fun _ h => by cases h) (by kernel_rfl) (fun _ h => by cases h) springReads_row_tie rfl ⟨rfl, rfl⟩ (by kernel_rfl) rfl plain (by kernel_rfl)
end Go.Proofs.YtknflipongbngaaDoor.SpringReads
