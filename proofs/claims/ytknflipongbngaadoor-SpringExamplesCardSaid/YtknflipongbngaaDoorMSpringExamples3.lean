/- Texts of the proof, merged: S6, S7, P18, W5, XVar, XMap, D7, D9, W6, R5. -/
import Derived.Test.YtknflipongbngaaDoorMSpringExamples2
/- The walks of functions. -/
namespace Go.Proofs.YtknflipongbngaaDoor
open Go.X Go.S Go.RowKit
set_option maxHeartbeats 4000000 in
theorem sgives_any (s : Sp) (bo ro : Option Addr) (bc rc : Nat) (week : Int) (hb : s.book.length ≤ 1000000) (hr : s.reads.length ≤ 1000000) (w : World) (hg : Gl w) (hs : SpAt w s bo ro) :
    CallsR Tryd.prog 22 [.agg ⟨[.int .i64 s.weeks, .int .i64 s.most, .int .i64 s.fall, .int .i64 s.a0, .int .i64 s.a1, .int .i64 s.w0, .int .i64 s.w1, (.slice bo s.book.length bc), (.slice ro s.reads.length rc)]⟩, .int .i64 week] w (fun v _ => v = .tuple ⟨[.agg ⟨[.int .i64 ((givesLo s week)), .int .i64 ((givesHi s week))]⟩, .int .i64 (toldE s week)]⟩) := by
  have hp : SpP s → (Wi week 0 (IntKind.i64.wrap (s.weeks - 1)) ↔ Wi week 0 (s.weeks - 1)) := fun hv => by
    have hH := hv.1; unfold HeadP at hH; rw [wrap_in (by omega)]
  have hA : askE s (Wi week 0 (IntKind.i64.wrap (s.weeks - 1))) 11 = toldE s week := askE_told hp
  refine CallsR.of_SX (n := 28) (rs := [.cell 4 23, .tmp 5]) Tryd.func22 rfl rfl rfl rfl ?_
  show SX _ _ _ ⟨[(0, .agg ⟨[.int .i64 s.weeks, .int .i64 s.most, .int .i64 s.fall, .int .i64 s.a0, .int .i64 s.a1, .int .i64 s.w0, .int .i64 s.w1, (.slice bo s.book.length bc), (.slice ro s.reads.length rc)]⟩), (1, .int .i64 week)], [], []⟩
  refine SX.seq ?_
  refine SX.region ?_
  refine SXL.box rfl rfl ?_; intro b0
  refine SXL.alloc zp_23 ?_; intro b1
  refine SXL.assign rfl ?_
  refine SXL.nil ?_
  refine thenQ.normal ?_
  refine SX.seq ?_
  refine SX.draw 17 (by kernel_rfl) (by kernel_rfl) ⟨[10, 11, 15, 16], [true, true, false, false, false]⟩ ?_
  refine SXA.take 0 5 rfl (by kernel_rfl) rfl ?_
  refine SXL.loadNo 0 sh_27 rfl rfl rfl ?_
  refine SXL.fieldAddr fp_27_0 rfl ?_
  refine SXL.load1o 0 sh_3 rfl rfl rfl ?_
  refine SXL.subW rfl rfl ?_
  refine SXL.move rfl ?_
  refine SXL.nil ⟨rfl, rfl, rfl, ?_⟩
  refine SXA.all [5, 12, 13] (by kernel_rfl) rfl ⟨⟨?_, rfl⟩, ⟨?_, rfl⟩, ⟨?_, rfl⟩, trivial⟩
  · refine (show SXL _ _ [_] _ _ from ?_)
    refine SXL.buildSlice et_35 zp_3 rfl rfl rfl rfl ?_; intro b2
    refine SXL.nil (stepQ.mk _ rfl rfl ?_)
    refine SXA.take 6 1 rfl (by kernel_rfl) rfl ?_
    refine SXL.call1 (.bool (decide (Wi week 0 (IntKind.i64.wrap (s.weeks - 1))))) fn_78 rfl (fun w hI => in1_own hI 2 week 0 (IntKind.i64.wrap (s.weeks - 1)) rfl) ?_
    refine SXL.nil ⟨rfl, rfl, rfl, ?_⟩
    refine SXA.all [7, 12, 13] (by kernel_rfl) rfl ⟨⟨?_, rfl⟩, ⟨?_, rfl⟩, ⟨?_, rfl⟩, trivial⟩
    · refine (show SXL _ _ [_] _ _ from ?_)
      refine SXL.callP (AskR s bo ro bc rc (Wi week 0 (IntKind.i64.wrap (s.weeks - 1))) 11) fn_75 rfl (fun w hI => asked_any s bo ro bc rc (Wi week 0 (IntKind.i64.wrap (s.weeks - 1))) 11 hb hr w (hg.inv hI) (hs.inv hI)) ?_; rintro _ ⟨W, O, hW1, hW2, hO, rfl, hok⟩
      refine SXL.nil (stepQ.mk _ rfl rfl ?_)
      refine SXA.take 8 2 rfl (by kernel_rfl) rfl ?_
      refine SXL.move rfl ?_
      refine SXL.extract rfl rfl ?_
      refine SXL.nil ⟨rfl, rfl, rfl, ?_⟩
      refine SXA.takeM 10 2 rfl (by kernel_rfl) rfl ?_
      refine SXL.extract rfl rfl ?_
      refine SXL.extract rfl rfl ?_
      refine SXL.nil ⟨rfl, rfl, rfl, ?_⟩
      refine SXA.all [12, 13] (by kernel_rfl) rfl ⟨⟨?_, rfl⟩, ⟨?_, rfl⟩, trivial⟩
      · refine (show SXL _ _ [_] _ _ from ?_)
        refine SXL.alloc zp_117 ?_; intro b3
        refine SXL.nil (stepQ.mk _ rfl rfl ?_)
        refine SXA.all [13] (by kernel_rfl) rfl ⟨⟨?_, rfl⟩, trivial⟩
        refine (show SXL _ _ [_] _ _ from ?_)
        refine SXL.alloc zp_114 ?_; intro b4
        refine SXL.nil (stepQ.mk _ rfl rfl ?_)
        refine SXA.all [14] (by kernel_rfl) rfl ⟨⟨?_, rfl⟩, trivial⟩
        refine (show SXL _ _ [_] _ _ from ?_)
        refine SXL.store 3 sz_117 rfl rfl rfl rfl hW1 (putAt_all _ _ (by simp [hW1])) ?_ hW2
        refine SXL.nil (stepQ.mkL _ (by kernel_rfl) rfl rfl ?_)
        refine SXA.all [15] (by kernel_rfl) rfl ⟨⟨?_, rfl⟩, trivial⟩
        refine (show SXL _ _ [_] _ _ from ?_)
        refine SXL.store 4 sz_114 rfl rfl rfl rfl (by simp [hO]) (putAt_all _ _ (by simp [hO])) ?_ (ints_isOne _)
        refine SXL.nil (stepQ.mkL _ (by kernel_rfl) rfl rfl ?_)
        refine SXA.takeM 16 1 rfl (by kernel_rfl) rfl ?_
        refine SXL.assign rfl ?_
        refine SXL.nil ⟨rfl, rfl, rfl, ?_⟩
        refine SXA.done (by kernel_rfl) ?_
        refine SXL.nil ?_
        refine thenQ.normal ?_
        refine SX.seq ?_
        refine SX.seq ?_
        refine SX.region ?_
        refine SXL.move rfl ?_
        refine SXL.neqI rfl rfl ?_
        refine SXL.nil ?_
        refine thenQ.normal ?_
        refine SX.condP rfl (fun c22 => ?_) (fun c22 => ?_)
        · refine SX.seq ?_
          refine SX.region ?_
          refine SXL.buildS pl_23 zp_23 rfl rfl ?_
          refine SXL.move rfl ?_
          refine SXL.store 1 sz_23 rfl rfl rfl rfl rfl rfl ?_
          refine SXL.assign rfl ?_
          refine SXL.nil ?_
          refine thenQ.normal ?_
          refine SX.ret ?_
          refine thenQ.ret ?_
          refine retQ.two (ResAt.cellNo 1 sh_23 rfl rfl rfl) (ResAt.tmp rfl) ?_
          rw [givesLo, givesHi, ← hA, if_neg c22, if_neg c22]
        · refine SX.skip ?_
          refine thenQ.normal ?_
          refine SX.seq ?_
          have hc22 := Decidable.not_not.1 c22
          obtain ⟨hv, hwk, ht⟩ := toldE_valid (hA ▸ hc22)
          obtain ⟨rfl, rfl⟩ := hok hv ((hp hv).2 hwk) ht
          obtain ⟨g1, g2⟩ := outA_at (hA ▸ hc22)
          have hH := hv.1
          unfold HeadP at hH
          refine SX.region ?_
          refine SXL.move rfl ?_
          refine SXL.indexA el_114 rfl rfl (by omega) ?_
          refine SXL.loadNo 4 sh_23 rfl rfl (ints_take2' (M := outA s) (i := week.toNat) (by omega) (by rw [hO]; omega)) ?_
          refine SXL.store 1 sz_23 rfl rfl rfl rfl rfl rfl ?_
          refine SXL.assign rfl ?_
          refine SXL.nil ?_
          refine thenQ.normal ?_
          refine SX.ret ?_
          refine retQ.two (ResAt.cellNo 1 sh_23 rfl rfl rfl) (ResAt.tmp rfl) ?_
          rw [← hA, hc22, g1, g2]
      · refine (show SXL _ _ [_] _ _ from ?_)
        refine SXL.alloc zp_114 ?_; intro b3
        refine SXL.nil (stepQ.mk _ rfl rfl ?_)
        refine SXA.all [12] (by kernel_rfl) rfl ⟨⟨?_, rfl⟩, trivial⟩
        refine (show SXL _ _ [_] _ _ from ?_)
        refine SXL.alloc zp_117 ?_; intro b4
        refine SXL.nil (stepQ.mk _ rfl rfl ?_)
        refine SXA.all [14] (by kernel_rfl) rfl ⟨⟨?_, rfl⟩, trivial⟩
        refine (show SXL _ _ [_] _ _ from ?_)
        refine SXL.store 4 sz_117 rfl rfl rfl rfl hW1 (putAt_all _ _ (by simp [hW1])) ?_ hW2
        refine SXL.nil (stepQ.mkL _ (by kernel_rfl) rfl rfl ?_)
        refine SXA.all [15] (by kernel_rfl) rfl ⟨⟨?_, rfl⟩, trivial⟩
        refine (show SXL _ _ [_] _ _ from ?_)
        refine SXL.store 3 sz_114 rfl rfl rfl rfl (by simp [hO]) (putAt_all _ _ (by simp [hO])) ?_ (ints_isOne _)
        refine SXL.nil (stepQ.mkL _ (by kernel_rfl) rfl rfl ?_)
        refine SXA.takeM 16 1 rfl (by kernel_rfl) rfl ?_
        refine SXL.assign rfl ?_
        refine SXL.nil ⟨rfl, rfl, rfl, ?_⟩
        refine SXA.done (by kernel_rfl) ?_
        refine SXL.nil ?_
        refine thenQ.normal ?_
        refine SX.seq ?_
        refine SX.seq ?_
        refine SX.region ?_
        refine SXL.move rfl ?_
        refine SXL.neqI rfl rfl ?_
        refine SXL.nil ?_
        refine thenQ.normal ?_
        refine SX.condP rfl (fun c22 => ?_) (fun c22 => ?_)
        · refine SX.seq ?_
          refine SX.region ?_
          refine SXL.buildS pl_23 zp_23 rfl rfl ?_
          refine SXL.move rfl ?_
          refine SXL.store 1 sz_23 rfl rfl rfl rfl rfl rfl ?_
          refine SXL.assign rfl ?_
          refine SXL.nil ?_
          refine thenQ.normal ?_
          refine SX.ret ?_
          refine thenQ.ret ?_
          refine retQ.two (ResAt.cellNo 1 sh_23 rfl rfl rfl) (ResAt.tmp rfl) ?_
          rw [givesLo, givesHi, ← hA, if_neg c22, if_neg c22]
        · refine SX.skip ?_
          refine thenQ.normal ?_
          refine SX.seq ?_
          have hc22 := Decidable.not_not.1 c22
          obtain ⟨hv, hwk, ht⟩ := toldE_valid (hA ▸ hc22)
          obtain ⟨rfl, rfl⟩ := hok hv ((hp hv).2 hwk) ht
          obtain ⟨g1, g2⟩ := outA_at (hA ▸ hc22)
          have hH := hv.1
          unfold HeadP at hH
          refine SX.region ?_
          refine SXL.move rfl ?_
          refine SXL.indexA el_114 rfl rfl (by omega) ?_
          refine SXL.loadNo 3 sh_23 rfl rfl (ints_take2' (M := outA s) (i := week.toNat) (by omega) (by rw [hO]; omega)) ?_
          refine SXL.store 1 sz_23 rfl rfl rfl rfl rfl rfl ?_
          refine SXL.assign rfl ?_
          refine SXL.nil ?_
          refine thenQ.normal ?_
          refine SX.ret ?_
          refine retQ.two (ResAt.cellNo 1 sh_23 rfl rfl rfl) (ResAt.tmp rfl) ?_
          rw [← hA, hc22, g1, g2]
    · refine (show SXL _ _ [_] _ _ from ?_)
      refine SXL.alloc zp_117 ?_; intro b3
      refine SXL.nil (stepQ.mk _ rfl rfl ?_)
      refine SXA.all [7, 13] (by kernel_rfl) rfl ⟨⟨?_, rfl⟩, ⟨?_, rfl⟩, trivial⟩
      · refine (show SXL _ _ [_] _ _ from ?_)
        refine SXL.callP (AskR s bo ro bc rc (Wi week 0 (IntKind.i64.wrap (s.weeks - 1))) 11) fn_75 rfl (fun w hI => asked_any s bo ro bc rc (Wi week 0 (IntKind.i64.wrap (s.weeks - 1))) 11 hb hr w (hg.inv hI) (hs.inv hI)) ?_; rintro _ ⟨W, O, hW1, hW2, hO, rfl, hok⟩
        refine SXL.nil (stepQ.mk _ rfl rfl ?_)
        refine SXA.take 8 2 rfl (by kernel_rfl) rfl ?_
        refine SXL.move rfl ?_
        refine SXL.extract rfl rfl ?_
        refine SXL.nil ⟨rfl, rfl, rfl, ?_⟩
        refine SXA.takeM 10 2 rfl (by kernel_rfl) rfl ?_
        refine SXL.extract rfl rfl ?_
        refine SXL.extract rfl rfl ?_
        refine SXL.nil ⟨rfl, rfl, rfl, ?_⟩
        refine SXA.all [13] (by kernel_rfl) rfl ⟨⟨?_, rfl⟩, trivial⟩
        refine (show SXL _ _ [_] _ _ from ?_)
        refine SXL.alloc zp_114 ?_; intro b4
        refine SXL.nil (stepQ.mk _ rfl rfl ?_)
        refine SXA.all [14] (by kernel_rfl) rfl ⟨⟨?_, rfl⟩, trivial⟩
        refine (show SXL _ _ [_] _ _ from ?_)
        refine SXL.store 3 sz_117 rfl rfl rfl rfl hW1 (putAt_all _ _ (by simp [hW1])) ?_ hW2
        refine SXL.nil (stepQ.mkL _ (by kernel_rfl) rfl rfl ?_)
        refine SXA.all [15] (by kernel_rfl) rfl ⟨⟨?_, rfl⟩, trivial⟩
        refine (show SXL _ _ [_] _ _ from ?_)
        refine SXL.store 4 sz_114 rfl rfl rfl rfl (by simp [hO]) (putAt_all _ _ (by simp [hO])) ?_ (ints_isOne _)
        refine SXL.nil (stepQ.mkL _ (by kernel_rfl) rfl rfl ?_)
        refine SXA.takeM 16 1 rfl (by kernel_rfl) rfl ?_
        refine SXL.assign rfl ?_
        refine SXL.nil ⟨rfl, rfl, rfl, ?_⟩
        refine SXA.done (by kernel_rfl) ?_
        refine SXL.nil ?_
        refine thenQ.normal ?_
        refine SX.seq ?_
        refine SX.seq ?_
        refine SX.region ?_
        refine SXL.move rfl ?_
        refine SXL.neqI rfl rfl ?_
        refine SXL.nil ?_
        refine thenQ.normal ?_
        refine SX.condP rfl (fun c22 => ?_) (fun c22 => ?_)
        · refine SX.seq ?_
          refine SX.region ?_
          refine SXL.buildS pl_23 zp_23 rfl rfl ?_
          refine SXL.move rfl ?_
          refine SXL.store 1 sz_23 rfl rfl rfl rfl rfl rfl ?_
          refine SXL.assign rfl ?_
          refine SXL.nil ?_
          refine thenQ.normal ?_
          refine SX.ret ?_
          refine thenQ.ret ?_
          refine retQ.two (ResAt.cellNo 1 sh_23 rfl rfl rfl) (ResAt.tmp rfl) ?_
          rw [givesLo, givesHi, ← hA, if_neg c22, if_neg c22]
        · refine SX.skip ?_
          refine thenQ.normal ?_
          refine SX.seq ?_
          have hc22 := Decidable.not_not.1 c22
          obtain ⟨hv, hwk, ht⟩ := toldE_valid (hA ▸ hc22)
          obtain ⟨rfl, rfl⟩ := hok hv ((hp hv).2 hwk) ht
          obtain ⟨g1, g2⟩ := outA_at (hA ▸ hc22)
          have hH := hv.1
          unfold HeadP at hH
          refine SX.region ?_
          refine SXL.move rfl ?_
          refine SXL.indexA el_114 rfl rfl (by omega) ?_
          refine SXL.loadNo 4 sh_23 rfl rfl (ints_take2' (M := outA s) (i := week.toNat) (by omega) (by rw [hO]; omega)) ?_
          refine SXL.store 1 sz_23 rfl rfl rfl rfl rfl rfl ?_
          refine SXL.assign rfl ?_
          refine SXL.nil ?_
          refine thenQ.normal ?_
          refine SX.ret ?_
          refine retQ.two (ResAt.cellNo 1 sh_23 rfl rfl rfl) (ResAt.tmp rfl) ?_
          rw [← hA, hc22, g1, g2]
      · refine (show SXL _ _ [_] _ _ from ?_)
        refine SXL.alloc zp_114 ?_; intro b4
        refine SXL.nil (stepQ.mk _ rfl rfl ?_)
        refine SXA.all [7] (by kernel_rfl) rfl ⟨⟨?_, rfl⟩, trivial⟩
        refine (show SXL _ _ [_] _ _ from ?_)
        refine SXL.callP (AskR s bo ro bc rc (Wi week 0 (IntKind.i64.wrap (s.weeks - 1))) 11) fn_75 rfl (fun w hI => asked_any s bo ro bc rc (Wi week 0 (IntKind.i64.wrap (s.weeks - 1))) 11 hb hr w (hg.inv hI) (hs.inv hI)) ?_; rintro _ ⟨W, O, hW1, hW2, hO, rfl, hok⟩
        refine SXL.nil (stepQ.mk _ rfl rfl ?_)
        refine SXA.take 8 2 rfl (by kernel_rfl) rfl ?_
        refine SXL.move rfl ?_
        refine SXL.extract rfl rfl ?_
        refine SXL.nil ⟨rfl, rfl, rfl, ?_⟩
        refine SXA.takeM 10 2 rfl (by kernel_rfl) rfl ?_
        refine SXL.extract rfl rfl ?_
        refine SXL.extract rfl rfl ?_
        refine SXL.nil ⟨rfl, rfl, rfl, ?_⟩
        refine SXA.all [14] (by kernel_rfl) rfl ⟨⟨?_, rfl⟩, trivial⟩
        refine (show SXL _ _ [_] _ _ from ?_)
        refine SXL.store 3 sz_117 rfl rfl rfl rfl hW1 (putAt_all _ _ (by simp [hW1])) ?_ hW2
        refine SXL.nil (stepQ.mkL _ (by kernel_rfl) rfl rfl ?_)
        refine SXA.all [15] (by kernel_rfl) rfl ⟨⟨?_, rfl⟩, trivial⟩
        refine (show SXL _ _ [_] _ _ from ?_)
        refine SXL.store 4 sz_114 rfl rfl rfl rfl (by simp [hO]) (putAt_all _ _ (by simp [hO])) ?_ (ints_isOne _)
        refine SXL.nil (stepQ.mkL _ (by kernel_rfl) rfl rfl ?_)
        refine SXA.takeM 16 1 rfl (by kernel_rfl) rfl ?_
        refine SXL.assign rfl ?_
        refine SXL.nil ⟨rfl, rfl, rfl, ?_⟩
        refine SXA.done (by kernel_rfl) ?_
        refine SXL.nil ?_
        refine thenQ.normal ?_
        refine SX.seq ?_
        refine SX.seq ?_
        refine SX.region ?_
        refine SXL.move rfl ?_
        refine SXL.neqI rfl rfl ?_
        refine SXL.nil ?_
        refine thenQ.normal ?_
        refine SX.condP rfl (fun c22 => ?_) (fun c22 => ?_)
        · refine SX.seq ?_
          refine SX.region ?_
          refine SXL.buildS pl_23 zp_23 rfl rfl ?_
          refine SXL.move rfl ?_
          refine SXL.store 1 sz_23 rfl rfl rfl rfl rfl rfl ?_
          refine SXL.assign rfl ?_
          refine SXL.nil ?_
          refine thenQ.normal ?_
          refine SX.ret ?_
          refine thenQ.ret ?_
          refine retQ.two (ResAt.cellNo 1 sh_23 rfl rfl rfl) (ResAt.tmp rfl) ?_
          rw [givesLo, givesHi, ← hA, if_neg c22, if_neg c22]
        · refine SX.skip ?_
          refine thenQ.normal ?_
          refine SX.seq ?_
          have hc22 := Decidable.not_not.1 c22
          obtain ⟨hv, hwk, ht⟩ := toldE_valid (hA ▸ hc22)
          obtain ⟨rfl, rfl⟩ := hok hv ((hp hv).2 hwk) ht
          obtain ⟨g1, g2⟩ := outA_at (hA ▸ hc22)
          have hH := hv.1
          unfold HeadP at hH
          refine SX.region ?_
          refine SXL.move rfl ?_
          refine SXL.indexA el_114 rfl rfl (by omega) ?_
          refine SXL.loadNo 4 sh_23 rfl rfl (ints_take2' (M := outA s) (i := week.toNat) (by omega) (by rw [hO]; omega)) ?_
          refine SXL.store 1 sz_23 rfl rfl rfl rfl rfl rfl ?_
          refine SXL.assign rfl ?_
          refine SXL.nil ?_
          refine thenQ.normal ?_
          refine SX.ret ?_
          refine retQ.two (ResAt.cellNo 1 sh_23 rfl rfl rfl) (ResAt.tmp rfl) ?_
          rw [← hA, hc22, g1, g2]
    · refine (show SXL _ _ [_] _ _ from ?_)
      refine SXL.alloc zp_114 ?_; intro b3
      refine SXL.nil (stepQ.mk _ rfl rfl ?_)
      refine SXA.all [7, 12] (by kernel_rfl) rfl ⟨⟨?_, rfl⟩, ⟨?_, rfl⟩, trivial⟩
      · refine (show SXL _ _ [_] _ _ from ?_)
        refine SXL.callP (AskR s bo ro bc rc (Wi week 0 (IntKind.i64.wrap (s.weeks - 1))) 11) fn_75 rfl (fun w hI => asked_any s bo ro bc rc (Wi week 0 (IntKind.i64.wrap (s.weeks - 1))) 11 hb hr w (hg.inv hI) (hs.inv hI)) ?_; rintro _ ⟨W, O, hW1, hW2, hO, rfl, hok⟩
        refine SXL.nil (stepQ.mk _ rfl rfl ?_)
        refine SXA.take 8 2 rfl (by kernel_rfl) rfl ?_
        refine SXL.move rfl ?_
        refine SXL.extract rfl rfl ?_
        refine SXL.nil ⟨rfl, rfl, rfl, ?_⟩
        refine SXA.takeM 10 2 rfl (by kernel_rfl) rfl ?_
        refine SXL.extract rfl rfl ?_
        refine SXL.extract rfl rfl ?_
        refine SXL.nil ⟨rfl, rfl, rfl, ?_⟩
        refine SXA.all [12] (by kernel_rfl) rfl ⟨⟨?_, rfl⟩, trivial⟩
        refine (show SXL _ _ [_] _ _ from ?_)
        refine SXL.alloc zp_117 ?_; intro b4
        refine SXL.nil (stepQ.mk _ rfl rfl ?_)
        refine SXA.all [14] (by kernel_rfl) rfl ⟨⟨?_, rfl⟩, trivial⟩
        refine (show SXL _ _ [_] _ _ from ?_)
        refine SXL.store 4 sz_117 rfl rfl rfl rfl hW1 (putAt_all _ _ (by simp [hW1])) ?_ hW2
        refine SXL.nil (stepQ.mkL _ (by kernel_rfl) rfl rfl ?_)
        refine SXA.all [15] (by kernel_rfl) rfl ⟨⟨?_, rfl⟩, trivial⟩
        refine (show SXL _ _ [_] _ _ from ?_)
        refine SXL.store 3 sz_114 rfl rfl rfl rfl (by simp [hO]) (putAt_all _ _ (by simp [hO])) ?_ (ints_isOne _)
        refine SXL.nil (stepQ.mkL _ (by kernel_rfl) rfl rfl ?_)
        refine SXA.takeM 16 1 rfl (by kernel_rfl) rfl ?_
        refine SXL.assign rfl ?_
        refine SXL.nil ⟨rfl, rfl, rfl, ?_⟩
        refine SXA.done (by kernel_rfl) ?_
        refine SXL.nil ?_
        refine thenQ.normal ?_
        refine SX.seq ?_
        refine SX.seq ?_
        refine SX.region ?_
        refine SXL.move rfl ?_
        refine SXL.neqI rfl rfl ?_
        refine SXL.nil ?_
        refine thenQ.normal ?_
        refine SX.condP rfl (fun c22 => ?_) (fun c22 => ?_)
        · refine SX.seq ?_
          refine SX.region ?_
          refine SXL.buildS pl_23 zp_23 rfl rfl ?_
          refine SXL.move rfl ?_
          refine SXL.store 1 sz_23 rfl rfl rfl rfl rfl rfl ?_
          refine SXL.assign rfl ?_
          refine SXL.nil ?_
          refine thenQ.normal ?_
          refine SX.ret ?_
          refine thenQ.ret ?_
          refine retQ.two (ResAt.cellNo 1 sh_23 rfl rfl rfl) (ResAt.tmp rfl) ?_
          rw [givesLo, givesHi, ← hA, if_neg c22, if_neg c22]
        · refine SX.skip ?_
          refine thenQ.normal ?_
          refine SX.seq ?_
          have hc22 := Decidable.not_not.1 c22
          obtain ⟨hv, hwk, ht⟩ := toldE_valid (hA ▸ hc22)
          obtain ⟨rfl, rfl⟩ := hok hv ((hp hv).2 hwk) ht
          obtain ⟨g1, g2⟩ := outA_at (hA ▸ hc22)
          have hH := hv.1
          unfold HeadP at hH
          refine SX.region ?_
          refine SXL.move rfl ?_
          refine SXL.indexA el_114 rfl rfl (by omega) ?_
          refine SXL.loadNo 3 sh_23 rfl rfl (ints_take2' (M := outA s) (i := week.toNat) (by omega) (by rw [hO]; omega)) ?_
          refine SXL.store 1 sz_23 rfl rfl rfl rfl rfl rfl ?_
          refine SXL.assign rfl ?_
          refine SXL.nil ?_
          refine thenQ.normal ?_
          refine SX.ret ?_
          refine retQ.two (ResAt.cellNo 1 sh_23 rfl rfl rfl) (ResAt.tmp rfl) ?_
          rw [← hA, hc22, g1, g2]
      · refine (show SXL _ _ [_] _ _ from ?_)
        refine SXL.alloc zp_117 ?_; intro b4
        refine SXL.nil (stepQ.mk _ rfl rfl ?_)
        refine SXA.all [7] (by kernel_rfl) rfl ⟨⟨?_, rfl⟩, trivial⟩
        refine (show SXL _ _ [_] _ _ from ?_)
        refine SXL.callP (AskR s bo ro bc rc (Wi week 0 (IntKind.i64.wrap (s.weeks - 1))) 11) fn_75 rfl (fun w hI => asked_any s bo ro bc rc (Wi week 0 (IntKind.i64.wrap (s.weeks - 1))) 11 hb hr w (hg.inv hI) (hs.inv hI)) ?_; rintro _ ⟨W, O, hW1, hW2, hO, rfl, hok⟩
        refine SXL.nil (stepQ.mk _ rfl rfl ?_)
        refine SXA.take 8 2 rfl (by kernel_rfl) rfl ?_
        refine SXL.move rfl ?_
        refine SXL.extract rfl rfl ?_
        refine SXL.nil ⟨rfl, rfl, rfl, ?_⟩
        refine SXA.takeM 10 2 rfl (by kernel_rfl) rfl ?_
        refine SXL.extract rfl rfl ?_
        refine SXL.extract rfl rfl ?_
        refine SXL.nil ⟨rfl, rfl, rfl, ?_⟩
        refine SXA.all [14] (by kernel_rfl) rfl ⟨⟨?_, rfl⟩, trivial⟩
        refine (show SXL _ _ [_] _ _ from ?_)
        refine SXL.store 4 sz_117 rfl rfl rfl rfl hW1 (putAt_all _ _ (by simp [hW1])) ?_ hW2
        refine SXL.nil (stepQ.mkL _ (by kernel_rfl) rfl rfl ?_)
        refine SXA.all [15] (by kernel_rfl) rfl ⟨⟨?_, rfl⟩, trivial⟩
        refine (show SXL _ _ [_] _ _ from ?_)
        refine SXL.store 3 sz_114 rfl rfl rfl rfl (by simp [hO]) (putAt_all _ _ (by simp [hO])) ?_ (ints_isOne _)
        refine SXL.nil (stepQ.mkL _ (by kernel_rfl) rfl rfl ?_)
        refine SXA.takeM 16 1 rfl (by kernel_rfl) rfl ?_
        refine SXL.assign rfl ?_
        refine SXL.nil ⟨rfl, rfl, rfl, ?_⟩
        refine SXA.done (by kernel_rfl) ?_
        refine SXL.nil ?_
        refine thenQ.normal ?_
        refine SX.seq ?_
        refine SX.seq ?_
        refine SX.region ?_
        refine SXL.move rfl ?_
        refine SXL.neqI rfl rfl ?_
        refine SXL.nil ?_
        refine thenQ.normal ?_
        refine SX.condP rfl (fun c22 => ?_) (fun c22 => ?_)
        · refine SX.seq ?_
          refine SX.region ?_
          refine SXL.buildS pl_23 zp_23 rfl rfl ?_
          refine SXL.move rfl ?_
          refine SXL.store 1 sz_23 rfl rfl rfl rfl rfl rfl ?_
          refine SXL.assign rfl ?_
          refine SXL.nil ?_
          refine thenQ.normal ?_
          refine SX.ret ?_
          refine thenQ.ret ?_
          refine retQ.two (ResAt.cellNo 1 sh_23 rfl rfl rfl) (ResAt.tmp rfl) ?_
          rw [givesLo, givesHi, ← hA, if_neg c22, if_neg c22]
        · refine SX.skip ?_
          refine thenQ.normal ?_
          refine SX.seq ?_
          have hc22 := Decidable.not_not.1 c22
          obtain ⟨hv, hwk, ht⟩ := toldE_valid (hA ▸ hc22)
          obtain ⟨rfl, rfl⟩ := hok hv ((hp hv).2 hwk) ht
          obtain ⟨g1, g2⟩ := outA_at (hA ▸ hc22)
          have hH := hv.1
          unfold HeadP at hH
          refine SX.region ?_
          refine SXL.move rfl ?_
          refine SXL.indexA el_114 rfl rfl (by omega) ?_
          refine SXL.loadNo 3 sh_23 rfl rfl (ints_take2' (M := outA s) (i := week.toNat) (by omega) (by rw [hO]; omega)) ?_
          refine SXL.store 1 sz_23 rfl rfl rfl rfl rfl rfl ?_
          refine SXL.assign rfl ?_
          refine SXL.nil ?_
          refine thenQ.normal ?_
          refine SX.ret ?_
          refine retQ.two (ResAt.cellNo 1 sh_23 rfl rfl rfl) (ResAt.tmp rfl) ?_
          rw [← hA, hc22, g1, g2]
  · refine (show SXL _ _ [_] _ _ from ?_)
    refine SXL.alloc zp_117 ?_; intro b2
    refine SXL.nil (stepQ.mk _ rfl rfl ?_)
    refine SXA.all [5, 13] (by kernel_rfl) rfl ⟨⟨?_, rfl⟩, ⟨?_, rfl⟩, trivial⟩
    · refine (show SXL _ _ [_] _ _ from ?_)
      refine SXL.buildSlice et_35 zp_3 rfl rfl rfl rfl ?_; intro b3
      refine SXL.nil (stepQ.mk _ rfl rfl ?_)
      refine SXA.take 6 1 rfl (by kernel_rfl) rfl ?_
      refine SXL.call1 (.bool (decide (Wi week 0 (IntKind.i64.wrap (s.weeks - 1))))) fn_78 rfl (fun w hI => in1_own hI 3 week 0 (IntKind.i64.wrap (s.weeks - 1)) rfl) ?_
      refine SXL.nil ⟨rfl, rfl, rfl, ?_⟩
      refine SXA.all [7, 13] (by kernel_rfl) rfl ⟨⟨?_, rfl⟩, ⟨?_, rfl⟩, trivial⟩
      · refine (show SXL _ _ [_] _ _ from ?_)
        refine SXL.callP (AskR s bo ro bc rc (Wi week 0 (IntKind.i64.wrap (s.weeks - 1))) 11) fn_75 rfl (fun w hI => asked_any s bo ro bc rc (Wi week 0 (IntKind.i64.wrap (s.weeks - 1))) 11 hb hr w (hg.inv hI) (hs.inv hI)) ?_; rintro _ ⟨W, O, hW1, hW2, hO, rfl, hok⟩
        refine SXL.nil (stepQ.mk _ rfl rfl ?_)
        refine SXA.take 8 2 rfl (by kernel_rfl) rfl ?_
        refine SXL.move rfl ?_
        refine SXL.extract rfl rfl ?_
        refine SXL.nil ⟨rfl, rfl, rfl, ?_⟩
        refine SXA.takeM 10 2 rfl (by kernel_rfl) rfl ?_
        refine SXL.extract rfl rfl ?_
        refine SXL.extract rfl rfl ?_
        refine SXL.nil ⟨rfl, rfl, rfl, ?_⟩
        refine SXA.all [13] (by kernel_rfl) rfl ⟨⟨?_, rfl⟩, trivial⟩
        refine (show SXL _ _ [_] _ _ from ?_)
        refine SXL.alloc zp_114 ?_; intro b4
        refine SXL.nil (stepQ.mk _ rfl rfl ?_)
        refine SXA.all [14] (by kernel_rfl) rfl ⟨⟨?_, rfl⟩, trivial⟩
        refine (show SXL _ _ [_] _ _ from ?_)
        refine SXL.store 2 sz_117 rfl rfl rfl rfl hW1 (putAt_all _ _ (by simp [hW1])) ?_ hW2
        refine SXL.nil (stepQ.mkL _ (by kernel_rfl) rfl rfl ?_)
        refine SXA.all [15] (by kernel_rfl) rfl ⟨⟨?_, rfl⟩, trivial⟩
        refine (show SXL _ _ [_] _ _ from ?_)
        refine SXL.store 4 sz_114 rfl rfl rfl rfl (by simp [hO]) (putAt_all _ _ (by simp [hO])) ?_ (ints_isOne _)
        refine SXL.nil (stepQ.mkL _ (by kernel_rfl) rfl rfl ?_)
        refine SXA.takeM 16 1 rfl (by kernel_rfl) rfl ?_
        refine SXL.assign rfl ?_
        refine SXL.nil ⟨rfl, rfl, rfl, ?_⟩
        refine SXA.done (by kernel_rfl) ?_
        refine SXL.nil ?_
        refine thenQ.normal ?_
        refine SX.seq ?_
        refine SX.seq ?_
        refine SX.region ?_
        refine SXL.move rfl ?_
        refine SXL.neqI rfl rfl ?_
        refine SXL.nil ?_
        refine thenQ.normal ?_
        refine SX.condP rfl (fun c22 => ?_) (fun c22 => ?_)
        · refine SX.seq ?_
          refine SX.region ?_
          refine SXL.buildS pl_23 zp_23 rfl rfl ?_
          refine SXL.move rfl ?_
          refine SXL.store 1 sz_23 rfl rfl rfl rfl rfl rfl ?_
          refine SXL.assign rfl ?_
          refine SXL.nil ?_
          refine thenQ.normal ?_
          refine SX.ret ?_
          refine thenQ.ret ?_
          refine retQ.two (ResAt.cellNo 1 sh_23 rfl rfl rfl) (ResAt.tmp rfl) ?_
          rw [givesLo, givesHi, ← hA, if_neg c22, if_neg c22]
        · refine SX.skip ?_
          refine thenQ.normal ?_
          refine SX.seq ?_
          have hc22 := Decidable.not_not.1 c22
          obtain ⟨hv, hwk, ht⟩ := toldE_valid (hA ▸ hc22)
          obtain ⟨rfl, rfl⟩ := hok hv ((hp hv).2 hwk) ht
          obtain ⟨g1, g2⟩ := outA_at (hA ▸ hc22)
          have hH := hv.1
          unfold HeadP at hH
          refine SX.region ?_
          refine SXL.move rfl ?_
          refine SXL.indexA el_114 rfl rfl (by omega) ?_
          refine SXL.loadNo 4 sh_23 rfl rfl (ints_take2' (M := outA s) (i := week.toNat) (by omega) (by rw [hO]; omega)) ?_
          refine SXL.store 1 sz_23 rfl rfl rfl rfl rfl rfl ?_
          refine SXL.assign rfl ?_
          refine SXL.nil ?_
          refine thenQ.normal ?_
          refine SX.ret ?_
          refine retQ.two (ResAt.cellNo 1 sh_23 rfl rfl rfl) (ResAt.tmp rfl) ?_
          rw [← hA, hc22, g1, g2]
      · refine (show SXL _ _ [_] _ _ from ?_)
        refine SXL.alloc zp_114 ?_; intro b4
        refine SXL.nil (stepQ.mk _ rfl rfl ?_)
        refine SXA.all [7] (by kernel_rfl) rfl ⟨⟨?_, rfl⟩, trivial⟩
        refine (show SXL _ _ [_] _ _ from ?_)
        refine SXL.callP (AskR s bo ro bc rc (Wi week 0 (IntKind.i64.wrap (s.weeks - 1))) 11) fn_75 rfl (fun w hI => asked_any s bo ro bc rc (Wi week 0 (IntKind.i64.wrap (s.weeks - 1))) 11 hb hr w (hg.inv hI) (hs.inv hI)) ?_; rintro _ ⟨W, O, hW1, hW2, hO, rfl, hok⟩
        refine SXL.nil (stepQ.mk _ rfl rfl ?_)
        refine SXA.take 8 2 rfl (by kernel_rfl) rfl ?_
        refine SXL.move rfl ?_
        refine SXL.extract rfl rfl ?_
        refine SXL.nil ⟨rfl, rfl, rfl, ?_⟩
        refine SXA.takeM 10 2 rfl (by kernel_rfl) rfl ?_
        refine SXL.extract rfl rfl ?_
        refine SXL.extract rfl rfl ?_
        refine SXL.nil ⟨rfl, rfl, rfl, ?_⟩
        refine SXA.all [14] (by kernel_rfl) rfl ⟨⟨?_, rfl⟩, trivial⟩
        refine (show SXL _ _ [_] _ _ from ?_)
        refine SXL.store 2 sz_117 rfl rfl rfl rfl hW1 (putAt_all _ _ (by simp [hW1])) ?_ hW2
        refine SXL.nil (stepQ.mkL _ (by kernel_rfl) rfl rfl ?_)
        refine SXA.all [15] (by kernel_rfl) rfl ⟨⟨?_, rfl⟩, trivial⟩
        refine (show SXL _ _ [_] _ _ from ?_)
        refine SXL.store 4 sz_114 rfl rfl rfl rfl (by simp [hO]) (putAt_all _ _ (by simp [hO])) ?_ (ints_isOne _)
        refine SXL.nil (stepQ.mkL _ (by kernel_rfl) rfl rfl ?_)
        refine SXA.takeM 16 1 rfl (by kernel_rfl) rfl ?_
        refine SXL.assign rfl ?_
        refine SXL.nil ⟨rfl, rfl, rfl, ?_⟩
        refine SXA.done (by kernel_rfl) ?_
        refine SXL.nil ?_
        refine thenQ.normal ?_
        refine SX.seq ?_
        refine SX.seq ?_
        refine SX.region ?_
        refine SXL.move rfl ?_
        refine SXL.neqI rfl rfl ?_
        refine SXL.nil ?_
        refine thenQ.normal ?_
        refine SX.condP rfl (fun c22 => ?_) (fun c22 => ?_)
        · refine SX.seq ?_
          refine SX.region ?_
          refine SXL.buildS pl_23 zp_23 rfl rfl ?_
          refine SXL.move rfl ?_
          refine SXL.store 1 sz_23 rfl rfl rfl rfl rfl rfl ?_
          refine SXL.assign rfl ?_
          refine SXL.nil ?_
          refine thenQ.normal ?_
          refine SX.ret ?_
          refine thenQ.ret ?_
          refine retQ.two (ResAt.cellNo 1 sh_23 rfl rfl rfl) (ResAt.tmp rfl) ?_
          rw [givesLo, givesHi, ← hA, if_neg c22, if_neg c22]
        · refine SX.skip ?_
          refine thenQ.normal ?_
          refine SX.seq ?_
          have hc22 := Decidable.not_not.1 c22
          obtain ⟨hv, hwk, ht⟩ := toldE_valid (hA ▸ hc22)
          obtain ⟨rfl, rfl⟩ := hok hv ((hp hv).2 hwk) ht
          obtain ⟨g1, g2⟩ := outA_at (hA ▸ hc22)
          have hH := hv.1
          unfold HeadP at hH
          refine SX.region ?_
          refine SXL.move rfl ?_
          refine SXL.indexA el_114 rfl rfl (by omega) ?_
          refine SXL.loadNo 4 sh_23 rfl rfl (ints_take2' (M := outA s) (i := week.toNat) (by omega) (by rw [hO]; omega)) ?_
          refine SXL.store 1 sz_23 rfl rfl rfl rfl rfl rfl ?_
          refine SXL.assign rfl ?_
          refine SXL.nil ?_
          refine thenQ.normal ?_
          refine SX.ret ?_
          refine retQ.two (ResAt.cellNo 1 sh_23 rfl rfl rfl) (ResAt.tmp rfl) ?_
          rw [← hA, hc22, g1, g2]
    · refine (show SXL _ _ [_] _ _ from ?_)
      refine SXL.alloc zp_114 ?_; intro b3
      refine SXL.nil (stepQ.mk _ rfl rfl ?_)
      refine SXA.all [5] (by kernel_rfl) rfl ⟨⟨?_, rfl⟩, trivial⟩
      refine (show SXL _ _ [_] _ _ from ?_)
      refine SXL.buildSlice et_35 zp_3 rfl rfl rfl rfl ?_; intro b4
      refine SXL.nil (stepQ.mk _ rfl rfl ?_)
      refine SXA.take 6 1 rfl (by kernel_rfl) rfl ?_
      refine SXL.call1 (.bool (decide (Wi week 0 (IntKind.i64.wrap (s.weeks - 1))))) fn_78 rfl (fun w hI => in1_own hI 4 week 0 (IntKind.i64.wrap (s.weeks - 1)) rfl) ?_
      refine SXL.nil ⟨rfl, rfl, rfl, ?_⟩
      refine SXA.all [7] (by kernel_rfl) rfl ⟨⟨?_, rfl⟩, trivial⟩
      refine (show SXL _ _ [_] _ _ from ?_)
      refine SXL.callP (AskR s bo ro bc rc (Wi week 0 (IntKind.i64.wrap (s.weeks - 1))) 11) fn_75 rfl (fun w hI => asked_any s bo ro bc rc (Wi week 0 (IntKind.i64.wrap (s.weeks - 1))) 11 hb hr w (hg.inv hI) (hs.inv hI)) ?_; rintro _ ⟨W, O, hW1, hW2, hO, rfl, hok⟩
      refine SXL.nil (stepQ.mk _ rfl rfl ?_)
      refine SXA.take 8 2 rfl (by kernel_rfl) rfl ?_
      refine SXL.move rfl ?_
      refine SXL.extract rfl rfl ?_
      refine SXL.nil ⟨rfl, rfl, rfl, ?_⟩
      refine SXA.takeM 10 2 rfl (by kernel_rfl) rfl ?_
      refine SXL.extract rfl rfl ?_
      refine SXL.extract rfl rfl ?_
      refine SXL.nil ⟨rfl, rfl, rfl, ?_⟩
      refine SXA.all [14] (by kernel_rfl) rfl ⟨⟨?_, rfl⟩, trivial⟩
      refine (show SXL _ _ [_] _ _ from ?_)
      refine SXL.store 2 sz_117 rfl rfl rfl rfl hW1 (putAt_all _ _ (by simp [hW1])) ?_ hW2
      refine SXL.nil (stepQ.mkL _ (by kernel_rfl) rfl rfl ?_)
      refine SXA.all [15] (by kernel_rfl) rfl ⟨⟨?_, rfl⟩, trivial⟩
      refine (show SXL _ _ [_] _ _ from ?_)
      refine SXL.store 3 sz_114 rfl rfl rfl rfl (by simp [hO]) (putAt_all _ _ (by simp [hO])) ?_ (ints_isOne _)
      refine SXL.nil (stepQ.mkL _ (by kernel_rfl) rfl rfl ?_)
      refine SXA.takeM 16 1 rfl (by kernel_rfl) rfl ?_
      refine SXL.assign rfl ?_
      refine SXL.nil ⟨rfl, rfl, rfl, ?_⟩
      refine SXA.done (by kernel_rfl) ?_
      refine SXL.nil ?_
      refine thenQ.normal ?_
      refine SX.seq ?_
      refine SX.seq ?_
      refine SX.region ?_
      refine SXL.move rfl ?_
      refine SXL.neqI rfl rfl ?_
      refine SXL.nil ?_
      refine thenQ.normal ?_
      refine SX.condP rfl (fun c22 => ?_) (fun c22 => ?_)
      · refine SX.seq ?_
        refine SX.region ?_
        refine SXL.buildS pl_23 zp_23 rfl rfl ?_
        refine SXL.move rfl ?_
        refine SXL.store 1 sz_23 rfl rfl rfl rfl rfl rfl ?_
        refine SXL.assign rfl ?_
        refine SXL.nil ?_
        refine thenQ.normal ?_
        refine SX.ret ?_
        refine thenQ.ret ?_
        refine retQ.two (ResAt.cellNo 1 sh_23 rfl rfl rfl) (ResAt.tmp rfl) ?_
        rw [givesLo, givesHi, ← hA, if_neg c22, if_neg c22]
      · refine SX.skip ?_
        refine thenQ.normal ?_
        refine SX.seq ?_
        have hc22 := Decidable.not_not.1 c22
        obtain ⟨hv, hwk, ht⟩ := toldE_valid (hA ▸ hc22)
        obtain ⟨rfl, rfl⟩ := hok hv ((hp hv).2 hwk) ht
        obtain ⟨g1, g2⟩ := outA_at (hA ▸ hc22)
        have hH := hv.1
        unfold HeadP at hH
        refine SX.region ?_
        refine SXL.move rfl ?_
        refine SXL.indexA el_114 rfl rfl (by omega) ?_
        refine SXL.loadNo 3 sh_23 rfl rfl (ints_take2' (M := outA s) (i := week.toNat) (by omega) (by rw [hO]; omega)) ?_
        refine SXL.store 1 sz_23 rfl rfl rfl rfl rfl rfl ?_
        refine SXL.assign rfl ?_
        refine SXL.nil ?_
        refine thenQ.normal ?_
        refine SX.ret ?_
        refine retQ.two (ResAt.cellNo 1 sh_23 rfl rfl rfl) (ResAt.tmp rfl) ?_
        rw [← hA, hc22, g1, g2]
  · refine (show SXL _ _ [_] _ _ from ?_)
    refine SXL.alloc zp_114 ?_; intro b2
    refine SXL.nil (stepQ.mk _ rfl rfl ?_)
    refine SXA.all [5, 12] (by kernel_rfl) rfl ⟨⟨?_, rfl⟩, ⟨?_, rfl⟩, trivial⟩
    · refine (show SXL _ _ [_] _ _ from ?_)
      refine SXL.buildSlice et_35 zp_3 rfl rfl rfl rfl ?_; intro b3
      refine SXL.nil (stepQ.mk _ rfl rfl ?_)
      refine SXA.take 6 1 rfl (by kernel_rfl) rfl ?_
      refine SXL.call1 (.bool (decide (Wi week 0 (IntKind.i64.wrap (s.weeks - 1))))) fn_78 rfl (fun w hI => in1_own hI 3 week 0 (IntKind.i64.wrap (s.weeks - 1)) rfl) ?_
      refine SXL.nil ⟨rfl, rfl, rfl, ?_⟩
      refine SXA.all [7, 12] (by kernel_rfl) rfl ⟨⟨?_, rfl⟩, ⟨?_, rfl⟩, trivial⟩
      · refine (show SXL _ _ [_] _ _ from ?_)
        refine SXL.callP (AskR s bo ro bc rc (Wi week 0 (IntKind.i64.wrap (s.weeks - 1))) 11) fn_75 rfl (fun w hI => asked_any s bo ro bc rc (Wi week 0 (IntKind.i64.wrap (s.weeks - 1))) 11 hb hr w (hg.inv hI) (hs.inv hI)) ?_; rintro _ ⟨W, O, hW1, hW2, hO, rfl, hok⟩
        refine SXL.nil (stepQ.mk _ rfl rfl ?_)
        refine SXA.take 8 2 rfl (by kernel_rfl) rfl ?_
        refine SXL.move rfl ?_
        refine SXL.extract rfl rfl ?_
        refine SXL.nil ⟨rfl, rfl, rfl, ?_⟩
        refine SXA.takeM 10 2 rfl (by kernel_rfl) rfl ?_
        refine SXL.extract rfl rfl ?_
        refine SXL.extract rfl rfl ?_
        refine SXL.nil ⟨rfl, rfl, rfl, ?_⟩
        refine SXA.all [12] (by kernel_rfl) rfl ⟨⟨?_, rfl⟩, trivial⟩
        refine (show SXL _ _ [_] _ _ from ?_)
        refine SXL.alloc zp_117 ?_; intro b4
        refine SXL.nil (stepQ.mk _ rfl rfl ?_)
        refine SXA.all [14] (by kernel_rfl) rfl ⟨⟨?_, rfl⟩, trivial⟩
        refine (show SXL _ _ [_] _ _ from ?_)
        refine SXL.store 4 sz_117 rfl rfl rfl rfl hW1 (putAt_all _ _ (by simp [hW1])) ?_ hW2
        refine SXL.nil (stepQ.mkL _ (by kernel_rfl) rfl rfl ?_)
        refine SXA.all [15] (by kernel_rfl) rfl ⟨⟨?_, rfl⟩, trivial⟩
        refine (show SXL _ _ [_] _ _ from ?_)
        refine SXL.store 2 sz_114 rfl rfl rfl rfl (by simp [hO]) (putAt_all _ _ (by simp [hO])) ?_ (ints_isOne _)
        refine SXL.nil (stepQ.mkL _ (by kernel_rfl) rfl rfl ?_)
        refine SXA.takeM 16 1 rfl (by kernel_rfl) rfl ?_
        refine SXL.assign rfl ?_
        refine SXL.nil ⟨rfl, rfl, rfl, ?_⟩
        refine SXA.done (by kernel_rfl) ?_
        refine SXL.nil ?_
        refine thenQ.normal ?_
        refine SX.seq ?_
        refine SX.seq ?_
        refine SX.region ?_
        refine SXL.move rfl ?_
        refine SXL.neqI rfl rfl ?_
        refine SXL.nil ?_
        refine thenQ.normal ?_
        refine SX.condP rfl (fun c22 => ?_) (fun c22 => ?_)
        · refine SX.seq ?_
          refine SX.region ?_
          refine SXL.buildS pl_23 zp_23 rfl rfl ?_
          refine SXL.move rfl ?_
          refine SXL.store 1 sz_23 rfl rfl rfl rfl rfl rfl ?_
          refine SXL.assign rfl ?_
          refine SXL.nil ?_
          refine thenQ.normal ?_
          refine SX.ret ?_
          refine thenQ.ret ?_
          refine retQ.two (ResAt.cellNo 1 sh_23 rfl rfl rfl) (ResAt.tmp rfl) ?_
          rw [givesLo, givesHi, ← hA, if_neg c22, if_neg c22]
        · refine SX.skip ?_
          refine thenQ.normal ?_
          refine SX.seq ?_
          have hc22 := Decidable.not_not.1 c22
          obtain ⟨hv, hwk, ht⟩ := toldE_valid (hA ▸ hc22)
          obtain ⟨rfl, rfl⟩ := hok hv ((hp hv).2 hwk) ht
          obtain ⟨g1, g2⟩ := outA_at (hA ▸ hc22)
          have hH := hv.1
          unfold HeadP at hH
          refine SX.region ?_
          refine SXL.move rfl ?_
          refine SXL.indexA el_114 rfl rfl (by omega) ?_
          refine SXL.loadNo 2 sh_23 rfl rfl (ints_take2' (M := outA s) (i := week.toNat) (by omega) (by rw [hO]; omega)) ?_
          refine SXL.store 1 sz_23 rfl rfl rfl rfl rfl rfl ?_
          refine SXL.assign rfl ?_
          refine SXL.nil ?_
          refine thenQ.normal ?_
          refine SX.ret ?_
          refine retQ.two (ResAt.cellNo 1 sh_23 rfl rfl rfl) (ResAt.tmp rfl) ?_
          rw [← hA, hc22, g1, g2]
      · refine (show SXL _ _ [_] _ _ from ?_)
        refine SXL.alloc zp_117 ?_; intro b4
        refine SXL.nil (stepQ.mk _ rfl rfl ?_)
        refine SXA.all [7] (by kernel_rfl) rfl ⟨⟨?_, rfl⟩, trivial⟩
        refine (show SXL _ _ [_] _ _ from ?_)
        refine SXL.callP (AskR s bo ro bc rc (Wi week 0 (IntKind.i64.wrap (s.weeks - 1))) 11) fn_75 rfl (fun w hI => asked_any s bo ro bc rc (Wi week 0 (IntKind.i64.wrap (s.weeks - 1))) 11 hb hr w (hg.inv hI) (hs.inv hI)) ?_; rintro _ ⟨W, O, hW1, hW2, hO, rfl, hok⟩
        refine SXL.nil (stepQ.mk _ rfl rfl ?_)
        refine SXA.take 8 2 rfl (by kernel_rfl) rfl ?_
        refine SXL.move rfl ?_
        refine SXL.extract rfl rfl ?_
        refine SXL.nil ⟨rfl, rfl, rfl, ?_⟩
        refine SXA.takeM 10 2 rfl (by kernel_rfl) rfl ?_
        refine SXL.extract rfl rfl ?_
        refine SXL.extract rfl rfl ?_
        refine SXL.nil ⟨rfl, rfl, rfl, ?_⟩
        refine SXA.all [14] (by kernel_rfl) rfl ⟨⟨?_, rfl⟩, trivial⟩
        refine (show SXL _ _ [_] _ _ from ?_)
        refine SXL.store 4 sz_117 rfl rfl rfl rfl hW1 (putAt_all _ _ (by simp [hW1])) ?_ hW2
        refine SXL.nil (stepQ.mkL _ (by kernel_rfl) rfl rfl ?_)
        refine SXA.all [15] (by kernel_rfl) rfl ⟨⟨?_, rfl⟩, trivial⟩
        refine (show SXL _ _ [_] _ _ from ?_)
        refine SXL.store 2 sz_114 rfl rfl rfl rfl (by simp [hO]) (putAt_all _ _ (by simp [hO])) ?_ (ints_isOne _)
        refine SXL.nil (stepQ.mkL _ (by kernel_rfl) rfl rfl ?_)
        refine SXA.takeM 16 1 rfl (by kernel_rfl) rfl ?_
        refine SXL.assign rfl ?_
        refine SXL.nil ⟨rfl, rfl, rfl, ?_⟩
        refine SXA.done (by kernel_rfl) ?_
        refine SXL.nil ?_
        refine thenQ.normal ?_
        refine SX.seq ?_
        refine SX.seq ?_
        refine SX.region ?_
        refine SXL.move rfl ?_
        refine SXL.neqI rfl rfl ?_
        refine SXL.nil ?_
        refine thenQ.normal ?_
        refine SX.condP rfl (fun c22 => ?_) (fun c22 => ?_)
        · refine SX.seq ?_
          refine SX.region ?_
          refine SXL.buildS pl_23 zp_23 rfl rfl ?_
          refine SXL.move rfl ?_
          refine SXL.store 1 sz_23 rfl rfl rfl rfl rfl rfl ?_
          refine SXL.assign rfl ?_
          refine SXL.nil ?_
          refine thenQ.normal ?_
          refine SX.ret ?_
          refine thenQ.ret ?_
          refine retQ.two (ResAt.cellNo 1 sh_23 rfl rfl rfl) (ResAt.tmp rfl) ?_
          rw [givesLo, givesHi, ← hA, if_neg c22, if_neg c22]
        · refine SX.skip ?_
          refine thenQ.normal ?_
          refine SX.seq ?_
          have hc22 := Decidable.not_not.1 c22
          obtain ⟨hv, hwk, ht⟩ := toldE_valid (hA ▸ hc22)
          obtain ⟨rfl, rfl⟩ := hok hv ((hp hv).2 hwk) ht
          obtain ⟨g1, g2⟩ := outA_at (hA ▸ hc22)
          have hH := hv.1
          unfold HeadP at hH
          refine SX.region ?_
          refine SXL.move rfl ?_
          refine SXL.indexA el_114 rfl rfl (by omega) ?_
          refine SXL.loadNo 2 sh_23 rfl rfl (ints_take2' (M := outA s) (i := week.toNat) (by omega) (by rw [hO]; omega)) ?_
          refine SXL.store 1 sz_23 rfl rfl rfl rfl rfl rfl ?_
          refine SXL.assign rfl ?_
          refine SXL.nil ?_
          refine thenQ.normal ?_
          refine SX.ret ?_
          refine retQ.two (ResAt.cellNo 1 sh_23 rfl rfl rfl) (ResAt.tmp rfl) ?_
          rw [← hA, hc22, g1, g2]
    · refine (show SXL _ _ [_] _ _ from ?_)
      refine SXL.alloc zp_117 ?_; intro b3
      refine SXL.nil (stepQ.mk _ rfl rfl ?_)
      refine SXA.all [5] (by kernel_rfl) rfl ⟨⟨?_, rfl⟩, trivial⟩
      refine (show SXL _ _ [_] _ _ from ?_)
      refine SXL.buildSlice et_35 zp_3 rfl rfl rfl rfl ?_; intro b4
      refine SXL.nil (stepQ.mk _ rfl rfl ?_)
      refine SXA.take 6 1 rfl (by kernel_rfl) rfl ?_
      refine SXL.call1 (.bool (decide (Wi week 0 (IntKind.i64.wrap (s.weeks - 1))))) fn_78 rfl (fun w hI => in1_own hI 4 week 0 (IntKind.i64.wrap (s.weeks - 1)) rfl) ?_
      refine SXL.nil ⟨rfl, rfl, rfl, ?_⟩
      refine SXA.all [7] (by kernel_rfl) rfl ⟨⟨?_, rfl⟩, trivial⟩
      refine (show SXL _ _ [_] _ _ from ?_)
      refine SXL.callP (AskR s bo ro bc rc (Wi week 0 (IntKind.i64.wrap (s.weeks - 1))) 11) fn_75 rfl (fun w hI => asked_any s bo ro bc rc (Wi week 0 (IntKind.i64.wrap (s.weeks - 1))) 11 hb hr w (hg.inv hI) (hs.inv hI)) ?_; rintro _ ⟨W, O, hW1, hW2, hO, rfl, hok⟩
      refine SXL.nil (stepQ.mk _ rfl rfl ?_)
      refine SXA.take 8 2 rfl (by kernel_rfl) rfl ?_
      refine SXL.move rfl ?_
      refine SXL.extract rfl rfl ?_
      refine SXL.nil ⟨rfl, rfl, rfl, ?_⟩
      refine SXA.takeM 10 2 rfl (by kernel_rfl) rfl ?_
      refine SXL.extract rfl rfl ?_
      refine SXL.extract rfl rfl ?_
      refine SXL.nil ⟨rfl, rfl, rfl, ?_⟩
      refine SXA.all [14] (by kernel_rfl) rfl ⟨⟨?_, rfl⟩, trivial⟩
      refine (show SXL _ _ [_] _ _ from ?_)
      refine SXL.store 3 sz_117 rfl rfl rfl rfl hW1 (putAt_all _ _ (by simp [hW1])) ?_ hW2
      refine SXL.nil (stepQ.mkL _ (by kernel_rfl) rfl rfl ?_)
      refine SXA.all [15] (by kernel_rfl) rfl ⟨⟨?_, rfl⟩, trivial⟩
      refine (show SXL _ _ [_] _ _ from ?_)
      refine SXL.store 2 sz_114 rfl rfl rfl rfl (by simp [hO]) (putAt_all _ _ (by simp [hO])) ?_ (ints_isOne _)
      refine SXL.nil (stepQ.mkL _ (by kernel_rfl) rfl rfl ?_)
      refine SXA.takeM 16 1 rfl (by kernel_rfl) rfl ?_
      refine SXL.assign rfl ?_
      refine SXL.nil ⟨rfl, rfl, rfl, ?_⟩
      refine SXA.done (by kernel_rfl) ?_
      refine SXL.nil ?_
      refine thenQ.normal ?_
      refine SX.seq ?_
      refine SX.seq ?_
      refine SX.region ?_
      refine SXL.move rfl ?_
      refine SXL.neqI rfl rfl ?_
      refine SXL.nil ?_
      refine thenQ.normal ?_
      refine SX.condP rfl (fun c22 => ?_) (fun c22 => ?_)
      · refine SX.seq ?_
        refine SX.region ?_
        refine SXL.buildS pl_23 zp_23 rfl rfl ?_
        refine SXL.move rfl ?_
        refine SXL.store 1 sz_23 rfl rfl rfl rfl rfl rfl ?_
        refine SXL.assign rfl ?_
        refine SXL.nil ?_
        refine thenQ.normal ?_
        refine SX.ret ?_
        refine thenQ.ret ?_
        refine retQ.two (ResAt.cellNo 1 sh_23 rfl rfl rfl) (ResAt.tmp rfl) ?_
        rw [givesLo, givesHi, ← hA, if_neg c22, if_neg c22]
      · refine SX.skip ?_
        refine thenQ.normal ?_
        refine SX.seq ?_
        have hc22 := Decidable.not_not.1 c22
        obtain ⟨hv, hwk, ht⟩ := toldE_valid (hA ▸ hc22)
        obtain ⟨rfl, rfl⟩ := hok hv ((hp hv).2 hwk) ht
        obtain ⟨g1, g2⟩ := outA_at (hA ▸ hc22)
        have hH := hv.1
        unfold HeadP at hH
        refine SX.region ?_
        refine SXL.move rfl ?_
        refine SXL.indexA el_114 rfl rfl (by omega) ?_
        refine SXL.loadNo 2 sh_23 rfl rfl (ints_take2' (M := outA s) (i := week.toNat) (by omega) (by rw [hO]; omega)) ?_
        refine SXL.store 1 sz_23 rfl rfl rfl rfl rfl rfl ?_
        refine SXL.assign rfl ?_
        refine SXL.nil ?_
        refine thenQ.normal ?_
        refine SX.ret ?_
        refine retQ.two (ResAt.cellNo 1 sh_23 rfl rfl rfl) (ResAt.tmp rfl) ?_
        rw [← hA, hc22, g1, g2]
theorem sknown_any (s : Sp) (bo ro : Option Addr) (bc rc : Nat) (week need : Int) (hb : s.book.length ≤ 1000000) (hr : s.reads.length ≤ 1000000) (w : World) (hg : Gl w) (hs : SpAt w s bo ro) :
    CallsR Tryd.prog 24 [.agg ⟨[.int .i64 s.weeks, .int .i64 s.most, .int .i64 s.fall, .int .i64 s.a0, .int .i64 s.a1, .int .i64 s.w0, .int .i64 s.w1, (.slice bo s.book.length bc), (.slice ro s.reads.length rc)]⟩, .int .i64 week, .int .i64 need] w (fun v _ => v = .tuple ⟨[.int .u8 (knownV s week need), .int .i64 (toldE s week)]⟩) := by
  refine CallsR.of_SX (n := 30) (rs := [.tmp 6, .tmp 7]) Tryd.func24 rfl rfl rfl rfl ?_
  show SX _ _ _ ⟨[(0, .agg ⟨[.int .i64 s.weeks, .int .i64 s.most, .int .i64 s.fall, .int .i64 s.a0, .int .i64 s.a1, .int .i64 s.w0, .int .i64 s.w1, (.slice bo s.book.length bc), (.slice ro s.reads.length rc)]⟩), (1, .int .i64 week), (2, .int .i64 need)], [], []⟩
  refine SX.seq ?_
  refine SX.region ?_
  refine SXL.box rfl rfl ?_; intro b0
  refine SXL.assign rfl ?_
  refine SXL.assign rfl ?_
  refine SXL.nil ?_
  refine thenQ.normal ?_
  refine SX.seq ?_
  refine SX.region ?_
  refine SXL.loadNo 0 sh_27 rfl rfl rfl ?_
  refine SXL.move rfl ?_
  refine SXL.call1 (.tuple ⟨[.agg ⟨[.int .i64 ((givesLo s week)), .int .i64 ((givesHi s week))]⟩, .int .i64 (toldE s week)]⟩) fn_22 rfl (fun w hI => sgives_any s bo ro _ _ _ hb hr _ (hg.inv hI) (hs.inv hI)) ?_
  refine SXL.move rfl ?_
  refine SXL.extract rfl rfl ?_
  refine SXL.extract rfl rfl ?_
  refine SXL.alloc zp_23 ?_; intro b1
  refine SXL.store 1 sz_23 rfl rfl rfl rfl rfl rfl ?_
  refine SXL.assign rfl ?_
  refine SXL.nil ?_
  refine thenQ.normal ?_
  refine SX.seq ?_
  refine SX.block ?_
  refine SX.seq ?_
  refine SX.region ?_
  refine SXL.move rfl ?_
  refine SXL.neqI rfl rfl ?_
  refine SXL.assign rfl ?_
  refine SXL.nil ?_
  refine thenQ.normal ?_
  refine SX.condP rfl (fun c17 => ?_) (fun c17 => ?_)
  · refine SX.seq ?_
    refine SX.region ?_
    refine SXL.move rfl ?_
    refine SXL.assign rfl ?_
    refine SXL.assign rfl ?_
    refine SXL.nil ?_
    refine thenQ.normal ?_
    refine SX.ret ?_
    refine blockQ.ret ?_
    refine thenQ.ret ?_
    refine retQ.two (ResAt.tmp rfl) (ResAt.tmp rfl) ?_
    rw [knownV, if_pos c17]
  · refine SX.seq ?_
    refine SX.region ?_
    refine SXL.fieldAddr fp_23_0 rfl ?_
    refine SXL.load1o 1 sh_3 rfl rfl rfl ?_
    refine SXL.move rfl ?_
    refine SXL.geq rfl rfl ?_
    refine SXL.assign rfl ?_
    refine SXL.nil ?_
    refine thenQ.normal ?_
    refine SX.condP rfl (fun c22 => ?_) (fun c22 => ?_)
    · refine SX.seq ?_
      refine SX.region ?_
      refine SXL.assign rfl ?_
      refine SXL.assign rfl ?_
      refine SXL.nil ?_
      refine thenQ.normal ?_
      refine SX.ret ?_
      refine blockQ.ret ?_
      refine thenQ.ret ?_
      refine retQ.two (ResAt.tmp rfl) (ResAt.tmp rfl) ?_
      rw [knownV, if_neg c17, if_pos c22, Decidable.not_not.1 c17]
    · refine SX.seq ?_
      refine SX.region ?_
      refine SXL.fieldAddr fp_23_1 rfl ?_
      refine SXL.load1o 1 sh_3 rfl rfl rfl ?_
      refine SXL.move rfl ?_
      refine SXL.lss rfl rfl ?_
      refine SXL.assign rfl ?_
      refine SXL.nil ?_
      refine thenQ.normal ?_
      refine SX.condP rfl (fun c26 => ?_) (fun c26 => ?_)
      · refine SX.seq ?_
        refine SX.region ?_
        refine SXL.assign rfl ?_
        refine SXL.assign rfl ?_
        refine SXL.nil ?_
        refine thenQ.normal ?_
        refine SX.ret ?_
        refine blockQ.ret ?_
        refine thenQ.ret ?_
        refine retQ.two (ResAt.tmp rfl) (ResAt.tmp rfl) ?_
        rw [knownV, if_neg c17, if_neg c22, if_pos c26, Decidable.not_not.1 c17]
      · refine SX.skip ?_
        refine blockQ.normal ?_
        refine thenQ.normal ?_
        refine SX.seq ?_
        refine SX.region ?_
        refine SXL.assign rfl ?_
        refine SXL.assign rfl ?_
        refine SXL.nil ?_
        refine thenQ.normal ?_
        refine SX.ret ?_
        refine retQ.two (ResAt.tmp rfl) (ResAt.tmp rfl) ?_
        rw [knownV, if_neg c17, if_neg c22, if_neg c26, Decidable.not_not.1 c17]
end Go.Proofs.YtknflipongbngaaDoor

/- The walks of functions. -/
namespace Go.Proofs.YtknflipongbngaaDoor
open Go.X Go.S Go.RowKit
theorem askT (s : Sp) : askE s True 0 = toldE s 0 := by
  rw [show askE s True 0 = askE s True 11 from by simp [askE]]
  refine askE_told (week := 0) fun hv => ?_
  have hH := hv.1
  unfold HeadP at hH
  exact ⟨fun _ => ⟨by omega, by omega⟩, fun _ => trivial⟩
theorem IsR2.errs {s : Sp} {e : Int} (h : toldE s 0 = e) (he : e ≠ 0) : IsR2 (toldL s 0) (toldE s 0) (.tuple ⟨[.slice none 0 0, .int .i64 e]⟩) [Sl.nil.ent 3 []] := by
  have hl := toldL_bad h he
  refine ⟨Sl.nil, ?_, ?_, ?_⟩ <;> simp only [hl, h]
  · exact .none _
  · rfl
  · rfl
set_option maxHeartbeats 4000000 in
theorem srains_any (s : Sp) (bo ro : Option Addr) (bc rc : Nat) (hb : s.book.length ≤ 1000000) (hr : s.reads.length ≤ 1000000) (w : World) (hg : Gl w) (hs : SpAt w s bo ro) :
    CallsR Tryd.prog 20 [.agg ⟨[.int .i64 s.weeks, .int .i64 s.most, .int .i64 s.fall, .int .i64 s.a0, .int .i64 s.a1, .int .i64 s.w0, .int .i64 s.w1, (.slice bo s.book.length bc), (.slice ro s.reads.length rc)]⟩] w (IsR2 (toldL s 0) (toldE s 0)) := by
  refine CallsR.of_SX (n := 27) (rs := [.tmp 2, .tmp 3]) Tryd.func20 rfl rfl rfl rfl ?_
  show SX _ _ _ ⟨[(0, .agg ⟨[.int .i64 s.weeks, .int .i64 s.most, .int .i64 s.fall, .int .i64 s.a0, .int .i64 s.a1, .int .i64 s.w0, .int .i64 s.w1, (.slice bo s.book.length bc), (.slice ro s.reads.length rc)]⟩)], [], []⟩
  refine SX.seq ?_
  refine SX.region ?_
  refine SXL.box rfl rfl ?_; intro b0
  refine SXL.assign rfl ?_
  refine SXL.assign rfl ?_
  refine SXL.nil ?_
  refine thenQ.normal ?_
  refine SX.seq ?_
  refine SX.region ?_
  refine SXL.loadNo 0 sh_27 rfl rfl rfl ?_
  refine SXL.callP (AskR s bo ro bc rc (True) 0) fn_75 rfl (fun w hI => asked_any s bo ro bc rc (True) 0 hb hr w (hg.inv hI) (hs.inv hI)) ?_; rintro _ ⟨W, O, hW1, hW2, hO, rfl, hok⟩
  refine SXL.move rfl ?_
  refine SXL.extract rfl rfl ?_
  refine SXL.extract rfl rfl ?_
  refine SXL.extract rfl rfl ?_
  refine SXL.alloc zp_117 ?_; intro b1
  refine SXL.alloc zp_114 ?_; intro b2
  refine SXL.store 1 sz_117 rfl rfl rfl rfl hW1 (putAt_all _ _ (by simp [hW1])) ?_ hW2
  refine SXL.store 2 sz_114 rfl rfl rfl rfl (by simp [hO]) (putAt_all _ _ (by simp [hO])) ?_ (ints_isOne _)
  refine SXL.assign rfl ?_
  refine SXL.nil ?_
  refine thenQ.normal ?_
  refine SX.seq ?_
  refine SX.seq ?_
  refine SX.region ?_
  refine SXL.move rfl ?_
  refine SXL.neqI rfl rfl ?_
  refine SXL.nil ?_
  refine thenQ.normal ?_
  refine SX.condP rfl (fun c16 => ?_) (fun c16 => ?_)
  · refine SX.seq ?_
    refine SX.region ?_
    refine SXL.move rfl ?_
    refine SXL.assign rfl ?_
    refine SXL.assign rfl ?_
    refine SXL.nil ?_
    refine thenQ.normal ?_
    refine SX.ret ?_
    refine thenQ.ret ?_
    refine retQ.dead [Sl.nil.ent 3 []] rfl ?_
    refine retQ.two (ResAt.tmp rfl) (ResAt.tmp rfl) ?_
    exact IsR2.errs (askT s).symm c16
  · refine SX.skip ?_
    refine thenQ.normal ?_
    refine SX.seq ?_
    have hc16 := Decidable.not_not.1 c16
    have hTo : toldE s 0 = 0 := (askT s).symm.trans hc16
    obtain ⟨hv, hwk, ht⟩ := toldE_valid hTo
    obtain ⟨rfl, rfl⟩ := hok hv trivial ht
    have hH := hv.1
    unfold HeadP at hH
    refine SX.region ?_
    refine SXL.alloc zp_35 ?_; intro b3
    refine SXL.nil ?_
    refine thenQ.normal ?_
    refine SX.seq ?_
    refine SX.seq ?_
    refine SX.pad (Sl.nil.ent 3 []) rfl ?_
    refine SX.region ?_
    refine SXL.loadNo 1 sh_117 rfl rfl (takeAt_full (watC_len (by simp [flL]))) ?_
    refine SXL.callF (ItR s bo ro bc rc (flL s)) fn_76 rfl (fun w hI => it_any s bo ro bc rc (flL s) (by simp [flL]) w) ?_; rintro _ _ ⟨bi, rfl, rfl⟩
    refine SXL.nil ?_
    refine thenQ.normal ?_
    refine SX.block ?_
    refine SX.rangeFunc (f := 117) (nf := 31) (rs := []) rfl fn_117 Tryd.func117 rfl rfl rfl rfl ?_
    intro fn T r l ob hT hob
    refine SX.scope ?_
    refine SX.seq ?_
    refine SX.label ?_
    refine thenQ.normal ?_
    refine SX.seq ?_
    refine SX.region ?_
    refine SXL.fieldAddr fp_117_0 rfl ?_
    refine SXL.fieldAddr fp_27_4 rfl ?_
    refine SXL.fieldAddr fp_23_0 rfl ?_
    refine SXL.load1o 5 sh_3 rfl rfl rfl ?_
    refine SXL.assign rfl ?_
    refine SXL.nil ?_
    refine thenQ.normal ?_
    refine SX.block ?_
    refine SX.loopG (α := Nat × Sl × Nat × List Value) [0, 1] rfl (fun ⟨k, r1, n1, c1⟩ => [(3, .int .i64 (s.w0 + (k : Int)))]) (fun ⟨k, r1, n1, c1⟩ => [(3, (b3, .cells ⟨[r1.val n1]⟩ 35 (0, 0))), (4, r1.ent 3 c1)]) (fun ⟨k, r1, n1, c1⟩ => k ≤ rnN s ∧ r1.Ok n1 1 c1 ∧ c1 = ints (rnsTo s (baseL s) k)) (fun ⟨k, r1, n1, c1⟩ => (rnN s - k)) (0, Sl.nil, 0, []) ⟨Nat.zero_le _, .none _, rfl⟩ ⟨congrArg (fun z => some (Value.int .i64 z)) (show s.w0 = s.w0 + ((0 : Nat) : Int) by omega), trivial⟩ rfl ?_
    rintro ⟨k, r1, n1, c1⟩ ⟨hk, ho1, rfl⟩
    have hlen := rnsTo_len s (baseL s) k
    have hn1 := Ok.n ho1
    have hN : rnN s = (s.w1 + 1 - s.w0).toNat := rfl
    refine SX.seq ?_
    refine SX.seq ?_
    refine SX.region ?_
    refine SXL.move rfl ?_
    refine SXL.fieldAddr fp_117_0 rfl ?_
    refine SXL.fieldAddr fp_27_4 rfl ?_
    refine SXL.fieldAddr fp_23_1 rfl ?_
    refine SXL.load1o 5 sh_3 rfl rfl rfl ?_
    refine SXL.leq rfl rfl ?_
    refine SXL.nil ?_
    refine thenQ.normal ?_
    refine SX.condP rfl (fun c15 => ?_) (fun c15 => ?_)
    · refine SX.skip ?_
      refine thenQ.normal ?_
      refine SX.seq ?_
      refine SX.block ?_
      refine SX.seq ?_
      refine SX.region ?_
      refine SXL.loadNo 5 sh_117 rfl rfl (takeAt_full (watC_len (by simp [flL]))) ?_
      refine SXL.move rfl ?_
      refine SXL.callP (AfterR s (baseL s) (s.w0 + (k : Int))) fn_118 rfl (fun w hI => after_any s bo ro bc rc (flL s) (baseL s) hv (relW hv) _ w (hg.inv hI) (hs.inv hI)) ?_; rintro _ ⟨X, hX1, hX2, rfl⟩
      refine SXL.move rfl ?_
      refine SXL.extract rfl rfl ?_
      refine SXL.extract rfl rfl ?_
      refine SXL.alloc zp_114 ?_; intro b8
      refine SXL.store 8 sz_114 rfl rfl rfl rfl (by simp [hX1]) (putAt_all _ _ (by simp [hX1])) ?_ (ints_isOne _)
      refine SXL.assign rfl ?_
      refine SXL.nil ?_
      refine thenQ.normal ?_
      refine SX.seq ?_
      refine SX.seq ?_
      refine SX.region ?_
      refine SXL.move rfl ?_
      refine SXL.not rfl ?_
      refine SXL.nil ?_
      refine thenQ.normal ?_
      refine SX.condP rfl (fun c25 => ?_) (fun c25 => ?_)
      · refine SX.exit ?_
        refine thenQ.exit ?_
        refine blockQ.exit ?_
        refine thenQ.normal ?_
        refine SX.region ?_
        refine SXL.move rfl ?_
        refine SXL.add rfl rfl (by omega) ?_
        refine SXL.assign rfl ?_
        refine SXL.nil ?_
        refine thenQ.normal ?_
        refine ⟨(k + 1, _, _, _), Meets.mk _ ⟨congrArg (fun z => some (Value.int .i64 z)) (show s.w0 + (k : Int) + 1 = s.w0 + ((k + 1 : Nat) : Int) by omega), trivial⟩ ⟨rfl, rfl, trivial⟩ rfl, ?_, ?_⟩
        · refine ⟨by omega, ?_⟩
          first
            | exact ⟨o_25, by rw [rnsTo_yes hlv]; simp [ints_snoc]⟩
            | exact ⟨ho1, by rw [rnsTo_no c25]⟩
        · show rnN s - (k + 1) < rnN s - k; omega
      · refine SX.skip ?_
        refine thenQ.normal ?_
        refine SX.seq ?_
        have hlv := Decidable.not_not.1 c25
        obtain rfl := hX2 hlv
        refine SX.region ?_
        refine SXL.move rfl ?_
        refine SXL.move rfl ?_
        refine SXL.loadNo 8 sh_114 rfl rfl (takeAt_full (by simp)) ?_
        refine SXL.yield hT hob 7 rfl rfl rfl rfl rfl ?_
        refine SX.region ?_
        refine SXL.assign rfl ?_
        refine SXL.nil ?_
        refine ⟨rfl, ?_⟩
        refine SX.block ?_
        refine SX.region ?_
        refine SXL.load1o 3 sh_35 rfl rfl rfl ?_
        refine SXL.move rfl ?_
        refine SXL.buildSlice et_35 zp_3 rfl rfl rfl rfl ?_; intro b9
        refine SXL.append 4 ap_35 rfl rfl ho1 rfl (.inr ⟨_, _, rfl, Mem.own (i := 9) rfl (takeAt_all _)⟩) rfl rfl ⟨by simp only [maxLen]; omega, by omega⟩ ?_; intro r_25 o_25
        refine SXL.store 3 sz_35 rfl rfl rfl rfl rfl rfl ?_
        refine SXL.nil ?_
        refine blockQ.normal ?_
        refine ⟨rfl, ?_⟩
        refine SXL.not rfl ?_
        refine SXL.nil ?_
        refine thenQ.normal ?_
        refine SX.condP rfl (fun c30 => ?_) (fun c30 => ?_)
        · exfalso; exact c30 trivial
        refine SX.skip ?_
        refine blockQ.normal ?_
        refine thenQ.normal ?_
        refine SX.region ?_
        refine SXL.move rfl ?_
        refine SXL.add rfl rfl (by omega) ?_
        refine SXL.assign rfl ?_
        refine SXL.nil ?_
        refine thenQ.normal ?_
        refine ⟨(k + 1, _, _, _), Meets.mk _ ⟨congrArg (fun z => some (Value.int .i64 z)) (show s.w0 + (k : Int) + 1 = s.w0 + ((k + 1 : Nat) : Int) by omega), trivial⟩ ⟨rfl, rfl, trivial⟩ rfl, ?_, ?_⟩
        · refine ⟨by omega, ?_⟩
          first
            | exact ⟨o_25, by rw [rnsTo_yes hlv]; simp [ints_snoc]⟩
            | exact ⟨ho1, by rw [rnsTo_no c25]⟩
        · show rnN s - (k + 1) < rnN s - k; omega
    · refine SX.exit ?_
      refine thenQ.exit ?_
      refine thenQ.exit ?_
      refine blockQ.exit ?_
      refine scopeQ.normal ?_
      refine retQ.zeroN ?_
      refine ⟨7, rfl, ?_⟩
      refine blockQ.normal ?_
      refine thenQ.normal ?_
      refine SX.seq ?_
      obtain rfl : k = rnN s := by omega
      refine SX.region ?_
      refine SXL.load1o 3 sh_35 rfl rfl rfl ?_
      refine SXL.assign rfl ?_
      refine SXL.assign rfl ?_
      refine SXL.nil ?_
      refine thenQ.normal ?_
      refine SX.ret ?_
      refine retQ.unmark 6 rfl ?_
      refine retQ.sel [4] rfl rfl ?_
      refine retQ.two (ResAt.tmp rfl) (ResAt.tmp rfl) ?_
      have e2 := Ok.n ho1; subst e2; rw [toldL_ok hTo, hTo]; exact ⟨r1, ho1, rfl, rfl⟩
end Go.Proofs.YtknflipongbngaaDoor

/- What the package spring reckons of weeks: the same. Nothing of Go stands here. -/
namespace Go.S
open Go Go.X
def cmpV (a b : Int) : Int := if a < b then -1 else if b < a then 1 else 0
theorem cmpV_neg {a b : Int} : cmpV a b < 0 ↔ a < b := by
  unfold cmpV
  split
  · simp_all
  · split <;> simp_all
theorem outA0 {s : Sp} (he : toldE s 0 = 0) {k : Nat} (hk : k < s.weeks.toNat) : Lo (outA s) k = hLo (toldA s 0) k ∧ Hi (outA s) k = hHi (toldA s 0) k := by
  obtain ⟨hv, hw, ht⟩ := toldE_valid he
  have h1 := hv.1; unfold HeadP at h1
  have hA : toldA s 0 = lvsL s (baseL s) (rnsL s (baseL s)) := by rw [toldA, toldL_ok he]
  obtain ⟨a, b⟩ := mk20_at (oLo s.weeks.toNat (toldA s 0)) (oHi s.weeks.toNat (toldA s 0)) (w := k) (by omega)
  have hne : ¬(toldA s 0 = [] ∨ s.weeks.toNat ≤ k) := by
    rintro (h | h)
    · rw [hA] at h; exact ht (by simpa [lvsL] using h)
    · omega
  unfold outA outL
  rw [← hA, a, b, oLo, oHi, if_neg hne, if_neg hne]
  exact ⟨rfl, rfl⟩
theorem outL_at {s : Sp} {L : List Int} (hv : SpP s) (hne : rnsL s L ≠ []) {k : Nat} (hk : k < s.weeks.toNat) : Lo (outL s.weeks.toNat (lvsL s L (rnsL s L))) k = hLo (lvsL s L (rnsL s L)) k ∧ Hi (outL s.weeks.toNat (lvsL s L (rnsL s L))) k = hHi (lvsL s L (rnsL s L)) k := by
  have h1 := hv.1; unfold HeadP at h1
  obtain ⟨a, b⟩ := mk20_at (oLo s.weeks.toNat (lvsL s L (rnsL s L))) (oHi s.weeks.toNat (lvsL s L (rnsL s L))) (w := k) (by omega)
  have hn : ¬(lvsL s L (rnsL s L) = [] ∨ s.weeks.toNat ≤ k) := by
    rintro (h | h)
    · exact hne (by simpa [lvsL] using h)
    · omega
  unfold outL
  rw [a, b, oLo, oHi, if_neg hn, if_neg hn]
  exact ⟨rfl, rfl⟩
theorem outL_no {s : Sp} {L : List Int} (hv : SpP s) (hno : rnsL s L = []) {k : Nat} (hk : k < s.weeks.toNat) : Lo (outL s.weeks.toNat (lvsL s L (rnsL s L))) k = 0 ∧ Hi (outL s.weeks.toNat (lvsL s L (rnsL s L))) k = 0 := by
  have h1 := hv.1; unfold HeadP at h1
  obtain ⟨a, b⟩ := mk20_at (oLo s.weeks.toNat (lvsL s L (rnsL s L))) (oHi s.weeks.toNat (lvsL s L (rnsL s L))) (w := k) (by omega)
  have hn : lvsL s L (rnsL s L) = [] ∨ s.weeks.toNat ≤ k := by rw [hno]; exact .inl rfl
  unfold outL
  rw [a, b, oLo, oHi, if_pos hn, if_pos hn]
  exact ⟨rfl, rfl⟩
/-- How wide what is told is, of all weeks together. -/
def widM (M : List Int) : Nat → Int
  | 0 => 0
  | k + 1 => widM M k + (Hi M k - Lo M k)
theorem widM_told {s : Sp} {L : List Int} (hv : SpP s) : ∀ k, k ≤ s.weeks.toNat → widM (outL s.weeks.toNat (lvsL s L (rnsL s L))) k = if rnsL s L = [] then 0 else widTo (lvsL s L (rnsL s L)) k
  | 0, _ => by simp [widM, widTo]
  | k + 1, hk => by
    have ih := widM_told (L := L) hv k (by omega)
    simp only [widM, ih]
    by_cases h : rnsL s L = []
    · obtain ⟨a, b⟩ := outL_no hv h (k := k) (by omega)
      rw [if_pos h, if_pos h, a, b]; omega
    · obtain ⟨a, b⟩ := outL_at hv h (k := k) (by omega)
      rw [if_neg h, if_neg h, a, b, widTo]
theorem wide_max {s : Sp} {L : List Int} (hv : SpP s) {m : Int} (hm : 0 ≤ m) : max m (widM (outL s.weeks.toNat (lvsL s L (rnsL s L))) s.weeks.toNat) = max m (wideP s L) := by
  rw [widM_told hv _ (Nat.le_refl _), wideP]
  by_cases h : rnsL s L = []
  · rw [if_pos h, if_pos h]; omega
  · rw [if_neg h, if_neg h]
theorem widM_bd {s : Sp} {L : List Int} (hv : SpP s) (hL : Bd L) {k : Nat} (hk : k ≤ s.weeks.toNat) : -20000 ≤ widM (outL s.weeks.toNat (lvsL s L (rnsL s L))) k ∧ widM (outL s.weeks.toNat (lvsL s L (rnsL s L))) k ≤ 20000 := by
  rw [widM_told hv k hk]
  split
  · omega
  · rename_i hne
    have h := hv.1; unfold HeadP at h
    have := widTo_bd (A := lvsL s L (rnsL s L)) (fun x hx => by
      obtain ⟨r, _, rfl⟩ := List.mem_map.1 hx
      exact hL.lv hv r) (by simp only [lvsL, List.length_map]; exact List.length_pos_iff.2 hne) k (by omega)
    omega
theorem out_bd {s : Sp} {L : List Int} (hv : SpP s) (hL : Bd L) {k : Nat} (hk : k < s.weeks.toNat) : (-1000 ≤ Lo (outL s.weeks.toNat (lvsL s L (rnsL s L))) k ∧ Lo (outL s.weeks.toNat (lvsL s L (rnsL s L))) k ≤ 1000) ∧ (-1000 ≤ Hi (outL s.weeks.toNat (lvsL s L (rnsL s L))) k ∧ Hi (outL s.weeks.toNat (lvsL s L (rnsL s L))) k ≤ 1000) := by
  have h := hv.1; unfold HeadP at h
  by_cases hne : rnsL s L = []
  · obtain ⟨a, b⟩ := outL_no hv hne hk
    rw [a, b]; omega
  · obtain ⟨a, b⟩ := outL_at hv hne hk
    rw [a, b]
    exact h_bd (A := lvsL s L (rnsL s L)) (fun x hx => by
      obtain ⟨r, _, rfl⟩ := List.mem_map.1 hx
      exact hL.lv hv r) (by simp only [lvsL, List.length_map]; exact List.length_pos_iff.2 hne) (by omega) _ (Nat.le_refl _)
/-- One week known, on both sides. -/
theorem relOne {s : Sp} (hv : SpP s) {w : Nat} (hw : w < s.weeks.toNat) {n : Int} (hn : 0 ≤ n ∧ n ≤ 100) : RelW s (set2 (flL s) w (n, n)) (oneW (baseL s) w n) := by
  have h1 := hv.1; unfold HeadP at h1
  have h := relW hv
  have hl := h.lr
  have hll := h.ll.len
  refine ⟨by simp [hl], h.ll.one (by omega), h.sb.set hl (by omega) (.inr ⟨hn.1, Int.le_refl _, hn.2⟩), fun v hvv => ?_, fun v hv10 hvw => ?_⟩
  · obtain ⟨a, b⟩ := set2_at hl (i := w) (j := v) (by omega) (by omega) (n, n)
    obtain ⟨c, d⟩ := setA_at hll (i := w) (j := v) (by omega) (by omega) n n
    unfold oneW
    rw [a, b, c, d]
    by_cases e : w = v
    · simp only [if_pos e]; exact .inl ⟨trivial, trivial⟩
    · simp only [if_neg e]; exact h.rel v hvv
  · obtain ⟨a, b⟩ := set2_at hl (i := w) (j := v) (by omega) hv10 (n, n)
    obtain ⟨c, d⟩ := setA_at hll (i := w) (j := v) (by omega) hv10 n n
    unfold oneW
    rw [a, b, c, d]
    have e : ¬w = v := by omega
    simp only [if_neg e]
    exact h.rest v hv10 hvw
theorem set2_set2 {M : List Int} {w : Nat} {p q : Int × Int} : set2 (set2 M w p) w q = set2 M w q := by
  unfold set2
  rw [List.set_comm _ _ (by omega : w * 2 + 1 ≠ w * 2), List.set_set, List.set_set]
/-- The lists of what is left: the least of all, and where it first stands. -/
def leftsL (s : Sp) (k : Nat) : List Int := (List.range k).map (leftP s)
theorem leftsL_succ (s : Sp) (k : Nat) : leftsL s (k + 1) = leftsL s k ++ [leftP s k] := by
  simp [leftsL, List.range_succ]
@[simp] theorem leftsL_len (s : Sp) (k : Nat) : (leftsL s k).length = k := by simp [leftsL]
theorem leftsL_at {s : Sp} {k i : Nat} (h : i < k) : (leftsL s k).getD i 0 = leftP s i := by simp [leftsL, h]
/-- Readings of one week: what of them is left lies between. -/
theorem fl_week {s : Sp} (hv : SpP s) {w : Nat} (hw : w < s.weeks.toNat) : (Lo (flL s) w = G (baseL s) w ∧ Hi (flL s) w = G (baseL s) (10 + w) ∧ (Lo (flL s) w ≤ Hi (flL s) w → 0 ≤ Lo (flL s) w ∧ Hi (flL s) w ≤ 100)) ∨ (Hi (flL s) w < Lo (flL s) w ∧ G (baseL s) (10 + w) < G (baseL s) w) := by
  have h1 := hv.1; unfold HeadP at h1
  have h := relW hv
  rcases h.rel w hw with ⟨a, b⟩ | ⟨a, b⟩
  · refine .inl ⟨a, b, fun hle => ?_⟩
    have := h.sb w (by omega)
    omega
  · exact .inr ⟨a, b⟩
theorem look_first {s : Sp} (hv : SpP s) : idxF (fun k => leftP s (lookI s) = (leftsL s s.weeks.toNat).getD k 0) s.weeks.toNat = (lookI s : Int) := by
  have h1 := hv.1; unfold HeadP at h1
  have hlt : lookI s < s.weeks.toNat := by
    have := amin_le (leftP s) (s.weeks.toNat - 1)
    unfold lookI; omega
  refine idxF_some (p := fun k => leftP s (lookI s) = (leftsL s s.weeks.toNat).getD k 0) hlt (by rw [leftsL_at hlt]) fun i hi e => ?_
  rw [leftsL_at (by omega)] at e
  have := amin_first (leftP s) (s.weeks.toNat - 1) i hi
  unfold lookI at e
  omega
theorem look_min {s : Sp} (hv : SpP s) : (leftsL s s.weeks.toNat).getD (amin (fun i => (leftsL s s.weeks.toNat).getD i 0) ((leftsL s s.weeks.toNat).length - 1)) 0 = leftP s (lookI s) := by
  have h1 := hv.1; unfold HeadP at h1
  rw [leftsL_len]
  have e : amin (fun i => (leftsL s s.weeks.toNat).getD i 0) (s.weeks.toNat - 1) = lookI s := amin_congr _ fun i hi => leftsL_at (by omega)
  rw [e]
  exact leftsL_at (by have := amin_le (leftP s) (s.weeks.toNat - 1); unfold lookI; omega)
end Go.S

/- The walks of functions. -/
namespace Go.Proofs.YtknflipongbngaaDoor
open Go.X Go.S Go.RowKit
theorem isNaN_any (a : Int) (w : World) :
    CallsR Tryd.prog 123 [.int .i64 a] w (fun v _ => v = .bool (decide (False))) := by
  refine CallsR.of_SX (n := 6) (rs := [.tmp 2]) Tryd.func123 rfl rfl rfl rfl ?_
  show SX _ _ _ ⟨[(0, .int .i64 a)], [], []⟩
  refine SX.seq ?_
  refine SX.region ?_
  refine SXL.assign rfl ?_
  refine SXL.nil ?_
  refine thenQ.normal ?_
  refine SX.seq ?_
  refine SX.region ?_
  refine SXL.move rfl ?_
  refine SXL.move rfl ?_
  refine SXL.neqI rfl rfl ?_
  refine SXL.assign rfl ?_
  refine SXL.nil ?_
  refine thenQ.normal ?_
  refine SX.ret ?_
  refine retQ.one (ResAt.tmp rfl) ?_
  exact congrArg Value.bool (decide_eq_decide.2 (by simp))
theorem compare_any (a b : Int) (w : World) :
    CallsR Tryd.prog 91 [.int .i64 a, .int .i64 b] w (fun v _ => v = .int .i64 (cmpV a b)) := by
  refine CallsR.of_SX (n := 20) (rs := [.tmp 4]) Tryd.func91 rfl rfl rfl rfl ?_
  show SX _ _ _ ⟨[(0, .int .i64 a), (1, .int .i64 b)], [], []⟩
  refine SX.seq ?_
  refine SX.region ?_
  refine SXL.assign rfl ?_
  refine SXL.nil ?_
  refine thenQ.normal ?_
  refine SX.seq ?_
  refine SX.region ?_
  refine SXL.move rfl ?_
  refine SXL.call1 (.bool (decide (False))) fn_123 rfl (fun w hI => isNaN_any _ _) ?_
  refine SXL.assign rfl ?_
  refine SXL.nil ?_
  refine thenQ.normal ?_
  refine SX.seq ?_
  refine SX.region ?_
  refine SXL.move rfl ?_
  refine SXL.call1 (.bool (decide (False))) fn_123 rfl (fun w hI => isNaN_any _ _) ?_
  refine SXL.assign rfl ?_
  refine SXL.nil ?_
  refine thenQ.normal ?_
  refine SX.seq ?_
  refine SX.seq ?_
  refine SX.region ?_
  refine SXL.move rfl ?_
  refine SXL.nil ?_
  refine thenQ.normal ?_
  refine SX.condP rfl (fun c11 => ?_) (fun c11 => ?_)
  · exfalso; exact c11
  refine SX.skip ?_
  refine thenQ.normal ?_
  refine SX.seq ?_
  refine SX.seq ?_
  refine SX.region ?_
  refine SXL.move rfl ?_
  refine SXL.nil ?_
  refine thenQ.normal ?_
  refine SX.condP rfl (fun c13 => ?_) (fun c13 => ?_)
  · exfalso; exact c13
  refine SX.skip ?_
  refine thenQ.normal ?_
  refine SX.seq ?_
  refine SX.seq ?_
  refine SX.region ?_
  refine SXL.move rfl ?_
  refine SXL.move rfl ?_
  refine SXL.lss rfl rfl ?_
  refine SXL.nil ?_
  refine thenQ.normal ?_
  refine SX.condP rfl (fun c16 => ?_) (fun c16 => ?_)
  · refine SX.seq ?_
    refine SX.region ?_
    refine SXL.assign rfl ?_
    refine SXL.nil ?_
    refine thenQ.normal ?_
    refine SX.ret ?_
    refine thenQ.ret ?_
    refine retQ.one (ResAt.tmp rfl) ?_
    rw [cmpV, if_pos c16]
  · refine SX.skip ?_
    refine thenQ.normal ?_
    refine SX.seq ?_
    refine SX.seq ?_
    refine SX.region ?_
    refine SXL.move rfl ?_
    refine SXL.move rfl ?_
    refine SXL.gtr rfl rfl ?_
    refine SXL.nil ?_
    refine thenQ.normal ?_
    refine SX.condP rfl (fun c19 => ?_) (fun c19 => ?_)
    · refine SX.seq ?_
      refine SX.region ?_
      refine SXL.assign rfl ?_
      refine SXL.nil ?_
      refine thenQ.normal ?_
      refine SX.ret ?_
      refine thenQ.ret ?_
      refine retQ.one (ResAt.tmp rfl) ?_
      rw [cmpV, if_neg c16, if_pos c19]
    · refine SX.skip ?_
      refine thenQ.normal ?_
      refine SX.seq ?_
      refine SX.region ?_
      refine SXL.assign rfl ?_
      refine SXL.nil ?_
      refine thenQ.normal ?_
      refine SX.ret ?_
      refine retQ.one (ResAt.tmp rfl) ?_
      rw [cmpV, if_neg c16, if_neg c19]
theorem indexFuncSpans (M : List Int) (n : Nat) (ao : Option Addr) (c : Nat) (F : Nat) (first capt : List Value) (p : Nat → Prop) [DecidablePred p] (hF : fnOk Tryd.prog F = true) (hmx : n ≤ 1000000) (w : World) (h : RowsAt w ao 2 (pairs M n)) (hc : ∀ k, k < n → ∀ w', Below w.heap.size w w' → CallsR Tryd.prog F (first ++ [.agg ⟨[.int .i64 ((Lo M k)), .int .i64 ((Hi M k))]⟩] ++ capt) w' (fun v _ => v = .bool (decide (p k)))) :
    CallsR Tryd.prog 126 [.slice ao n c, .func (.func F) ⟨first⟩ ⟨capt⟩] w (fun v _ => v = .int .i64 (idxF p n)) := by
  refine CallsR.of_SX (n := 19) (rs := [.tmp 4]) Tryd.func126 rfl rfl rfl rfl ?_
  show SX _ _ _ ⟨[(0, .slice ao n c), (1, .func (.func F) ⟨first⟩ ⟨capt⟩)], [], []⟩
  refine SX.seq ?_
  refine SX.region ?_
  refine SXL.assign rfl ?_
  refine SXL.nil ?_
  refine thenQ.normal ?_
  refine SX.seq ?_
  refine SX.seq ?_
  refine SX.region ?_
  refine SXL.move rfl ?_
  refine SXL.len is_179 rfl ?_
  refine SXL.move rfl ?_
  refine SXL.nil ?_
  refine thenQ.normal ?_
  refine SX.block ?_
  refine SX.loopG (α := Nat) [0, 1, 4, 7] rfl (fun k => [(8, .int .i64 ((k : Int)))]) (fun k => []) (fun k => k ≤ n ∧ ∀ i, i < k → ¬p i) (fun k => n - k) 0 ⟨Nat.zero_le _, fun _ h => absurd h (Nat.not_lt_zero _)⟩ ⟨rfl, trivial⟩ rfl ?_
  rintro k ⟨hk, hall⟩
  refine SX.seq ?_
  refine SX.region ?_
  refine SXL.lss rfl rfl ?_
  refine SXL.nil ?_
  refine thenQ.normal ?_
  refine SX.seq ?_
  refine SX.condP rfl (fun c9 => ?_) (fun c9 => ?_)
  · refine SX.skip ?_
    refine thenQ.normal ?_
    refine SX.seq ?_
    refine SX.block ?_
    refine SX.seq ?_
    refine SX.region ?_
    refine SXL.move rfl ?_
    refine SXL.assign rfl ?_
    refine SXL.nil ?_
    refine thenQ.normal ?_
    refine SX.seq ?_
    obtain ⟨b2, o, ha, hm⟩ := pairAt h (i := k) (by omega)
    refine SX.region ?_
    refine SXL.move rfl ?_
    refine SXL.move rfl ?_
    refine SXL.move rfl ?_
    refine SXL.indexR el_179 rfl rfl ha (by omega) ?_
    refine SXL.loadN sh_23 rfl (hm _) rfl ?_
    refine SXL.call1V (.bool (decide (p k))) hF rfl rfl (fun w hI => hc k (by omega) _ hI.below) ?_
    refine SXL.nil ?_
    refine thenQ.normal ?_
    refine SX.condP rfl (fun c16 => ?_) (fun c16 => ?_)
    · refine SX.seq ?_
      refine SX.region ?_
      refine SXL.move rfl ?_
      refine SXL.assign rfl ?_
      refine SXL.nil ?_
      refine thenQ.normal ?_
      refine SX.ret ?_
      refine blockQ.ret ?_
      refine thenQ.ret ?_
      refine thenQ.ret ?_
      refine blockQ.ret ?_
      refine thenQ.ret ?_
      refine retQ.one (ResAt.tmp rfl) ?_
      exact congrArg (Value.int .i64) (idxF_some (by omega) c16 hall).symm
    · refine SX.skip ?_
      refine blockQ.normal ?_
      refine thenQ.normal ?_
      refine SX.region ?_
      refine SXL.add rfl rfl (by omega) ?_
      refine SXL.move rfl ?_
      refine SXL.nil ?_
      refine thenQ.normal ?_
      refine ⟨k + 1, Meets.mk _ ⟨rfl, trivial⟩ ⟨rfl, rfl, rfl, rfl, trivial⟩ rfl, ?_, (by omega)⟩
      refine ⟨by omega, fun i hi => ?_⟩
      by_cases e : i = k
      · subst e; exact c16
      · exact hall i (by omega)
  · refine SX.exit ?_
    refine thenQ.exit ?_
    refine thenQ.exit ?_
    refine blockQ.exit ?_
    refine thenQ.normal ?_
    refine SX.seq ?_
    refine SX.region ?_
    refine SXL.assign rfl ?_
    refine SXL.nil ?_
    refine thenQ.normal ?_
    refine SX.ret ?_
    refine retQ.one (ResAt.tmp rfl) ?_
    exact congrArg (Value.int .i64) (idxF_none fun i hi => hall i (by omega)).symm
set_option maxHeartbeats 1000000 in
theorem firstWeek_any (s : Sp) (bo ro : Option Addr) (bc rc : Nat) (F b3 : Nat) (p : Nat → Prop) [DecidablePred p] (hF : fnOk Tryd.prog F = true) (hb : s.book.length ≤ 1000000) (hr : s.reads.length ≤ 1000000) (w : World) (hg : Gl w) (hs : SpAt w s bo ro) (hc : toldE s 0 = 0 → ∀ k, k < s.weeks.toNat → ∀ w', Below w.heap.size w w' → CallsR Tryd.prog F ([] ++ [.agg ⟨[.int .i64 ((Lo (outA s) k)), .int .i64 ((Hi (outA s) k))]⟩] ++ [.pointer (some ⟨b3, 0, none⟩)]) w' (fun v _ => v = .bool (decide (p k)))) :
    CallsR Tryd.prog 94 [.agg ⟨[.int .i64 s.weeks, .int .i64 s.most, .int .i64 s.fall, .int .i64 s.a0, .int .i64 s.a1, .int .i64 s.w0, .int .i64 s.w1, (.slice bo s.book.length bc), (.slice ro s.reads.length rc)]⟩, .func (.func F) ⟨[]⟩ ⟨[.pointer (some ⟨b3, 0, none⟩)]⟩] w (fun v _ => v = .tuple ⟨[.int .i64 (wkV s (idxF p s.weeks.toNat)), .int .i64 (wkE s (idxF p s.weeks.toNat))]⟩) := by
  refine CallsR.of_SX (n := 28) (rs := [.tmp 4, .tmp 5]) Tryd.func94 rfl rfl rfl rfl ?_
  show SX _ _ _ ⟨[(0, .agg ⟨[.int .i64 s.weeks, .int .i64 s.most, .int .i64 s.fall, .int .i64 s.a0, .int .i64 s.a1, .int .i64 s.w0, .int .i64 s.w1, (.slice bo s.book.length bc), (.slice ro s.reads.length rc)]⟩), (1, .func (.func F) ⟨[]⟩ ⟨[.pointer (some ⟨b3, 0, none⟩)]⟩)], [], []⟩
  refine SX.seq ?_
  refine SX.region ?_
  refine SXL.box rfl rfl ?_; intro b0
  refine SXL.assign rfl ?_
  refine SXL.assign rfl ?_
  refine SXL.nil ?_
  refine thenQ.normal ?_
  refine SX.seq ?_
  refine SX.region ?_
  refine SXL.loadNo 0 sh_27 rfl rfl rfl ?_
  refine SXL.callP (AskR s bo ro bc rc (True) 0) fn_75 rfl (fun w hI => asked_any s bo ro bc rc (True) 0 hb hr w (hg.inv hI) (hs.inv hI)) ?_; rintro _ ⟨W, O, hW1, hW2, hO, rfl, hok⟩
  refine SXL.move rfl ?_
  refine SXL.extract rfl rfl ?_
  refine SXL.extract rfl rfl ?_
  refine SXL.extract rfl rfl ?_
  refine SXL.alloc zp_117 ?_; intro b1
  refine SXL.alloc zp_114 ?_; intro b2
  refine SXL.store 1 sz_117 rfl rfl rfl rfl hW1 (putAt_all _ _ (by simp [hW1])) ?_ hW2
  refine SXL.store 2 sz_114 rfl rfl rfl rfl (by simp [hO]) (putAt_all _ _ (by simp [hO])) ?_ (ints_isOne _)
  refine SXL.assign rfl ?_
  refine SXL.nil ?_
  refine thenQ.normal ?_
  refine SX.seq ?_
  refine SX.seq ?_
  refine SX.region ?_
  refine SXL.move rfl ?_
  refine SXL.neqI rfl rfl ?_
  refine SXL.nil ?_
  refine thenQ.normal ?_
  refine SX.condP rfl (fun c17 => ?_) (fun c17 => ?_)
  · refine SX.seq ?_
    refine SX.region ?_
    refine SXL.move rfl ?_
    refine SXL.assign rfl ?_
    refine SXL.assign rfl ?_
    refine SXL.nil ?_
    refine thenQ.normal ?_
    refine SX.ret ?_
    refine thenQ.ret ?_
    refine retQ.dead [] rfl ?_
    refine retQ.two (ResAt.tmp rfl) (ResAt.tmp rfl) ?_
    have hne : toldE s 0 ≠ 0 := fun h => c17 ((askT s).trans h)
    rw [wkV, wkE, if_pos hne, if_pos hne, askT]
  · refine SX.skip ?_
    refine thenQ.normal ?_
    refine SX.seq ?_
    refine SX.seq ?_
    have hcc := Decidable.not_not.1 c17
    have hTo : toldE s 0 = 0 := (askT s).symm.trans hcc
    obtain ⟨hv, hwk, ht⟩ := toldE_valid hTo
    obtain ⟨rfl, rfl⟩ := hok hv trivial ht
    have hH := hv.1
    unfold HeadP at hH
    refine SX.region ?_
    refine SXL.fieldAddr fp_117_0 rfl ?_
    refine SXL.fieldAddr fp_27_0 rfl ?_
    refine SXL.load1o 1 sh_3 rfl rfl rfl ?_
    refine SXL.sliceAH el_114 rfl rfl (by omega) ?_
    refine SXL.move rfl ?_
    refine SXL.call1 (.int .i64 (idxF p s.weeks.toNat)) fn_126 rfl (fun w hI => indexFuncSpans (outA s) s.weeks.toNat _ _ F [] [.pointer (some ⟨b3, 0, none⟩)] p hF (by omega) _ (ownPairs hI (i := 2) rfl (by simp [outA, outL]; omega)) (fun k hk w' hb => hc hTo k hk w' (belowT hI hb))) ?_
    refine SXL.assign rfl ?_
    refine SXL.nil ?_
    refine thenQ.normal ?_
    refine SX.seq ?_
    refine SX.region ?_
    refine SXL.move rfl ?_
    refine SXL.geq rfl rfl ?_
    refine SXL.nil ?_
    refine thenQ.normal ?_
    refine SX.condP rfl (fun c26 => ?_) (fun c26 => ?_)
    · refine SX.seq ?_
      refine SX.region ?_
      refine SXL.move rfl ?_
      refine SXL.assign rfl ?_
      refine SXL.assign rfl ?_
      refine SXL.nil ?_
      refine thenQ.normal ?_
      refine SX.ret ?_
      refine thenQ.ret ?_
      refine retQ.dead [] rfl ?_
      refine retQ.two (ResAt.tmp rfl) (ResAt.tmp rfl) ?_
      rw [wkV, wkE, if_neg (not_not_intro hTo), if_neg (not_not_intro hTo), if_pos c26, if_pos c26]
    · refine SX.skip ?_
      refine thenQ.normal ?_
      refine SX.seq ?_
      refine SX.region ?_
      refine SXL.assign rfl ?_
      refine SXL.assign rfl ?_
      refine SXL.nil ?_
      refine thenQ.normal ?_
      refine SX.ret ?_
      refine retQ.dead [] rfl ?_
      refine retQ.two (ResAt.tmp rfl) (ResAt.tmp rfl) ?_
      rw [wkV, wkE, if_neg (not_not_intro hTo), if_neg (not_not_intro hTo), if_neg c26, if_neg c26]
theorem failsSo (a b need : Int) (b3 : Nat) (w : World) (h3 : w.cell? ⟨b3, 0, none⟩ = some (.int .i64 need)) :
    CallsR Tryd.prog 95 [.agg ⟨[.int .i64 a, .int .i64 b]⟩, .pointer (some ⟨b3, 0, none⟩)] w (fun v _ => v = .bool (decide (a < need))) := by
  refine CallsR.of_SX (n := 8) (rs := [.tmp 3]) Tryd.func95 rfl rfl rfl rfl ?_
  show SX _ _ _ ⟨[(0, .agg ⟨[.int .i64 a, .int .i64 b]⟩), (1, .pointer (some ⟨b3, 0, none⟩))], [], []⟩
  refine SX.seq ?_
  refine SX.region ?_
  refine SXL.box rfl rfl ?_; intro b0
  refine SXL.assign rfl ?_
  refine SXL.nil ?_
  refine thenQ.normal ?_
  refine SX.seq ?_
  refine SX.region ?_
  refine SXL.fieldAddr fp_23_0 rfl ?_
  refine SXL.load1o 0 sh_3 rfl rfl rfl ?_
  refine SXL.load1 sh_3 rfl (Mem.out1 h3) ?_
  refine SXL.lss rfl rfl ?_
  refine SXL.assign rfl ?_
  refine SXL.nil ?_
  refine thenQ.normal ?_
  refine SX.ret ?_
  refine retQ.one (ResAt.tmp rfl) ?_
  first | rfl | assumption
theorem sfails_any (s : Sp) (bo ro : Option Addr) (bc rc : Nat) (need : Int) (hb : s.book.length ≤ 1000000) (hr : s.reads.length ≤ 1000000) (w : World) (hg : Gl w) (hs : SpAt w s bo ro) :
    CallsR Tryd.prog 42 [.agg ⟨[.int .i64 s.weeks, .int .i64 s.most, .int .i64 s.fall, .int .i64 s.a0, .int .i64 s.a1, .int .i64 s.w0, .int .i64 s.w1, (.slice bo s.book.length bc), (.slice ro s.reads.length rc)]⟩, .int .i64 need] w (fun v _ => v = .tuple ⟨[.int .i64 (wkV s (loI s need)), .int .i64 (wkE s (loI s need))]⟩) := by
  refine CallsR.of_SX (n := 11) (rs := [.tmp 4, .tmp 5]) Tryd.func42 rfl rfl rfl rfl ?_
  show SX _ _ _ ⟨[(0, .agg ⟨[.int .i64 s.weeks, .int .i64 s.most, .int .i64 s.fall, .int .i64 s.a0, .int .i64 s.a1, .int .i64 s.w0, .int .i64 s.w1, (.slice bo s.book.length bc), (.slice ro s.reads.length rc)]⟩), (1, .int .i64 need)], [], []⟩
  refine SX.seq ?_
  refine SX.region ?_
  refine SXL.box rfl rfl ?_; intro b0
  refine SXL.box rfl rfl ?_; intro b1
  refine SXL.assign rfl ?_
  refine SXL.assign rfl ?_
  refine SXL.nil ?_
  refine thenQ.normal ?_
  refine SX.seq ?_
  refine SX.region ?_
  refine SXL.loadNo 0 sh_27 rfl rfl rfl ?_
  refine SXL.makeFunc rfl rfl ?_
  refine SXL.call1 (.tuple ⟨[.int .i64 (wkV s (loI s need)), .int .i64 (wkE s (loI s need))]⟩) fn_94 rfl (fun w hI => firstWeek_any s bo ro bc rc 95 b1 (fun k => hLo (toldA s 0) k < need) fn_95 hb hr _ (hg.inv hI) (hs.inv hI) (fun hTo k hk w' hb => (failsSo _ _ need b1 _ (cell_keep (ownCell hI (i := 1) (j := 0) rfl rfl) hb)).iff (by first | rw [(outA0 hTo hk).1] | rw [(outA0 hTo hk).2]))) ?_
  refine SXL.extract rfl rfl ?_
  refine SXL.extract rfl rfl ?_
  refine SXL.assign rfl ?_
  refine SXL.assign rfl ?_
  refine SXL.nil ?_
  refine thenQ.normal ?_
  refine SX.ret ?_
  refine retQ.dead [] rfl ?_
  refine retQ.two (ResAt.tmp rfl) (ResAt.tmp rfl) ?_
  rfl
theorem surelySo (a b need : Int) (b3 : Nat) (w : World) (h3 : w.cell? ⟨b3, 0, none⟩ = some (.int .i64 need)) :
    CallsR Tryd.prog 96 [.agg ⟨[.int .i64 a, .int .i64 b]⟩, .pointer (some ⟨b3, 0, none⟩)] w (fun v _ => v = .bool (decide (b < need))) := by
  refine CallsR.of_SX (n := 8) (rs := [.tmp 3]) Tryd.func96 rfl rfl rfl rfl ?_
  show SX _ _ _ ⟨[(0, .agg ⟨[.int .i64 a, .int .i64 b]⟩), (1, .pointer (some ⟨b3, 0, none⟩))], [], []⟩
  refine SX.seq ?_
  refine SX.region ?_
  refine SXL.box rfl rfl ?_; intro b0
  refine SXL.assign rfl ?_
  refine SXL.nil ?_
  refine thenQ.normal ?_
  refine SX.seq ?_
  refine SX.region ?_
  refine SXL.fieldAddr fp_23_1 rfl ?_
  refine SXL.load1o 0 sh_3 rfl rfl rfl ?_
  refine SXL.load1 sh_3 rfl (Mem.out1 h3) ?_
  refine SXL.lss rfl rfl ?_
  refine SXL.assign rfl ?_
  refine SXL.nil ?_
  refine thenQ.normal ?_
  refine SX.ret ?_
  refine retQ.one (ResAt.tmp rfl) ?_
  first | rfl | assumption
theorem ssurely_any (s : Sp) (bo ro : Option Addr) (bc rc : Nat) (need : Int) (hb : s.book.length ≤ 1000000) (hr : s.reads.length ≤ 1000000) (w : World) (hg : Gl w) (hs : SpAt w s bo ro) :
    CallsR Tryd.prog 44 [.agg ⟨[.int .i64 s.weeks, .int .i64 s.most, .int .i64 s.fall, .int .i64 s.a0, .int .i64 s.a1, .int .i64 s.w0, .int .i64 s.w1, (.slice bo s.book.length bc), (.slice ro s.reads.length rc)]⟩, .int .i64 need] w (fun v _ => v = .tuple ⟨[.int .i64 (wkV s (hiI s need)), .int .i64 (wkE s (hiI s need))]⟩) := by
  refine CallsR.of_SX (n := 11) (rs := [.tmp 4, .tmp 5]) Tryd.func44 rfl rfl rfl rfl ?_
  show SX _ _ _ ⟨[(0, .agg ⟨[.int .i64 s.weeks, .int .i64 s.most, .int .i64 s.fall, .int .i64 s.a0, .int .i64 s.a1, .int .i64 s.w0, .int .i64 s.w1, (.slice bo s.book.length bc), (.slice ro s.reads.length rc)]⟩), (1, .int .i64 need)], [], []⟩
  refine SX.seq ?_
  refine SX.region ?_
  refine SXL.box rfl rfl ?_; intro b0
  refine SXL.box rfl rfl ?_; intro b1
  refine SXL.assign rfl ?_
  refine SXL.assign rfl ?_
  refine SXL.nil ?_
  refine thenQ.normal ?_
  refine SX.seq ?_
  refine SX.region ?_
  refine SXL.loadNo 0 sh_27 rfl rfl rfl ?_
  refine SXL.makeFunc rfl rfl ?_
  refine SXL.call1 (.tuple ⟨[.int .i64 (wkV s (hiI s need)), .int .i64 (wkE s (hiI s need))]⟩) fn_94 rfl (fun w hI => firstWeek_any s bo ro bc rc 96 b1 (fun k => hHi (toldA s 0) k < need) fn_96 hb hr _ (hg.inv hI) (hs.inv hI) (fun hTo k hk w' hb => (surelySo _ _ need b1 _ (cell_keep (ownCell hI (i := 1) (j := 0) rfl rfl) hb)).iff (by first | rw [(outA0 hTo hk).1] | rw [(outA0 hTo hk).2]))) ?_
  refine SXL.extract rfl rfl ?_
  refine SXL.extract rfl rfl ?_
  refine SXL.assign rfl ?_
  refine SXL.assign rfl ?_
  refine SXL.nil ?_
  refine thenQ.normal ?_
  refine SX.ret ?_
  refine retQ.dead [] rfl ?_
  refine retQ.two (ResAt.tmp rfl) (ResAt.tmp rfl) ?_
  rfl
set_option maxHeartbeats 1000000 in
theorem sfill_any (s : Sp) (bo ro : Option Addr) (bc rc : Nat) (week bucket : Int) (hb : s.book.length ≤ 1000000) (hr : s.reads.length ≤ 1000000) (w : World) (hg : Gl w) (hs : SpAt w s bo ro) :
    CallsR Tryd.prog 50 [.agg ⟨[.int .i64 s.weeks, .int .i64 s.most, .int .i64 s.fall, .int .i64 s.a0, .int .i64 s.a1, .int .i64 s.w0, .int .i64 s.w1, (.slice bo s.book.length bc), (.slice ro s.reads.length rc)]⟩, .int .i64 week, .int .i64 bucket] w (fun v _ => v = .tuple ⟨[.agg ⟨[.int .i64 ((fillLo s week bucket)), .int .i64 ((fillHi s week bucket))]⟩, .int .i64 (fillE s week bucket)]⟩) := by
  refine CallsR.of_SX (n := 63) (rs := [.cell 6 23, .tmp 7]) Tryd.func50 rfl rfl rfl rfl ?_
  show SX _ _ _ ⟨[(0, .agg ⟨[.int .i64 s.weeks, .int .i64 s.most, .int .i64 s.fall, .int .i64 s.a0, .int .i64 s.a1, .int .i64 s.w0, .int .i64 s.w1, (.slice bo s.book.length bc), (.slice ro s.reads.length rc)]⟩), (1, .int .i64 week), (2, .int .i64 bucket)], [], []⟩
  refine SX.seq ?_
  refine SX.region ?_
  refine SXL.box rfl rfl ?_; intro b0
  refine SXL.alloc zp_23 ?_; intro b1
  refine SXL.assign rfl ?_
  refine SXL.nil ?_
  refine thenQ.normal ?_
  refine SX.seq ?_
  refine SX.seq ?_
  refine SX.region ?_
  refine SXL.loadNo 0 sh_27 rfl rfl rfl ?_
  refine SXL.call1 (.int .i64 (if SpP s then 0 else 10)) fn_26 rfl (fun w hI => scheck_any s bo ro bc rc hb hr _ (hg.inv hI) (hs.inv hI)) ?_
  refine SXL.assign rfl ?_
  refine SXL.nil ?_
  refine thenQ.normal ?_
  refine SX.seq ?_
  refine SX.region ?_
  refine SXL.move rfl ?_
  refine SXL.neqI rfl rfl ?_
  refine SXL.nil ?_
  refine thenQ.normal ?_
  refine SX.condP rfl (fun c14 => ?_) (fun c14 => ?_)
  · refine SX.seq ?_
    have hv : ¬SpP s := fun h => c14 (by rw [if_pos h])
    refine SX.region ?_
    refine SXL.buildS pl_23 zp_23 rfl rfl ?_
    refine SXL.move rfl ?_
    refine SXL.store 1 sz_23 rfl rfl rfl rfl rfl rfl ?_
    refine SXL.assign rfl ?_
    refine SXL.nil ?_
    refine thenQ.normal ?_
    refine SX.ret ?_
    refine thenQ.ret ?_
    refine retQ.dead [] rfl ?_
    refine retQ.two (ResAt.cellNo 1 sh_23 rfl rfl rfl) (ResAt.tmp rfl) ?_
    rw [if_neg hv]
    have he : fillE s week bucket = 10 := by rw [fillE, if_pos hv]
    rw [fillLo, fillHi, if_neg (by rw [he]; omega), if_neg (by rw [he]; omega), he]
  · refine SX.skip ?_
    refine thenQ.normal ?_
    refine SX.seq ?_
    refine SX.block ?_
    refine SX.seq ?_
    have hv : SpP s := Decidable.byContradiction fun h => c14 (by rw [if_neg h]; omega)
    have hH := hv.1
    unfold HeadP at hH
    refine SX.region ?_
    refine SXL.fieldAddr fp_27_0 rfl ?_
    refine SXL.load1o 0 sh_3 rfl rfl rfl ?_
    refine SXL.sub rfl rfl (by omega) ?_
    refine SXL.move rfl ?_
    refine SXL.buildSlice et_35 zp_3 rfl rfl rfl rfl ?_; intro b2
    refine SXL.call1 (.bool (decide (Wi week 0 (s.weeks - 1)))) fn_78 rfl (fun w hI => in1_own hI 2 week 0 (s.weeks - 1) rfl) ?_
    refine SXL.not rfl ?_
    refine SXL.assign rfl ?_
    refine SXL.nil ?_
    refine thenQ.normal ?_
    refine SX.condP rfl (fun c17 => ?_) (fun c17 => ?_)
    · refine SX.seq ?_
      refine SX.region ?_
      refine SXL.buildS pl_23 zp_23 rfl rfl ?_
      refine SXL.store 1 sz_23 rfl rfl rfl rfl rfl rfl ?_
      refine SXL.assign rfl ?_
      refine SXL.nil ?_
      refine thenQ.normal ?_
      refine SX.ret ?_
      refine blockQ.ret ?_
      refine thenQ.ret ?_
      refine retQ.dead [] rfl ?_
      refine retQ.two (ResAt.cellNo 1 sh_23 rfl rfl rfl) (ResAt.tmp rfl) ?_
      have he : fillE s week bucket = 11 := by rw [fillE, if_neg (not_not_intro hv), if_pos c17]
      rw [fillLo, fillHi, if_neg (by rw [he]; omega), if_neg (by rw [he]; omega), he]
    · refine SX.seq ?_
      have hwk : Wi week 0 (s.weeks - 1) := Decidable.not_not.1 c17
      refine SX.region ?_
      refine SXL.move rfl ?_
      refine SXL.buildSlice et_35 zp_3 rfl rfl rfl rfl ?_; intro b3
      refine SXL.call1 (.bool (decide (Wi bucket 1 40))) fn_78 rfl (fun w hI => in1_own hI 3 bucket 1 40 rfl) ?_
      refine SXL.not rfl ?_
      refine SXL.assign rfl ?_
      refine SXL.nil ?_
      refine thenQ.normal ?_
      refine SX.condP rfl (fun c26 => ?_) (fun c26 => ?_)
      · refine SX.seq ?_
        refine SX.region ?_
        refine SXL.buildS pl_23 zp_23 rfl rfl ?_
        refine SXL.store 1 sz_23 rfl rfl rfl rfl rfl rfl ?_
        refine SXL.assign rfl ?_
        refine SXL.nil ?_
        refine thenQ.normal ?_
        refine SX.ret ?_
        refine blockQ.ret ?_
        refine thenQ.ret ?_
        refine retQ.dead [] rfl ?_
        refine retQ.two (ResAt.cellNo 1 sh_23 rfl rfl rfl) (ResAt.tmp rfl) ?_
        have he : fillE s week bucket = 14 := by rw [fillE, if_neg (not_not_intro hv), if_neg (not_not_intro hwk), if_pos c26]
        rw [fillLo, fillHi, if_neg (by rw [he]; omega), if_neg (by rw [he]; omega), he]
      · refine SX.skip ?_
        refine blockQ.normal ?_
        refine thenQ.normal ?_
        refine SX.seq ?_
        have hbk : Wi bucket 1 40 := Decidable.not_not.1 c26
        refine SX.region ?_
        refine SXL.loadNo 0 sh_27 rfl rfl rfl ?_
        refine SXL.move rfl ?_
        refine SXL.call1 (.tuple ⟨[.agg ⟨[.int .i64 ((givesLo s week)), .int .i64 ((givesHi s week))]⟩, .int .i64 (toldE s week)]⟩) fn_22 rfl (fun w hI => sgives_any s bo ro bc rc week hb hr _ (hg.inv hI) (hs.inv hI)) ?_
        refine SXL.move rfl ?_
        refine SXL.extract rfl rfl ?_
        refine SXL.extract rfl rfl ?_
        refine SXL.alloc zp_23 ?_; intro b4
        refine SXL.store 4 sz_23 rfl rfl rfl rfl rfl rfl ?_
        refine SXL.assign rfl ?_
        refine SXL.nil ?_
        refine thenQ.normal ?_
        refine SX.seq ?_
        refine SX.block ?_
        refine SX.seq ?_
        refine SX.region ?_
        refine SXL.move rfl ?_
        refine SXL.neqI rfl rfl ?_
        refine SXL.assign rfl ?_
        refine SXL.nil ?_
        refine thenQ.normal ?_
        refine SX.condP rfl (fun c38 => ?_) (fun c38 => ?_)
        · refine SX.seq ?_
          refine SX.region ?_
          refine SXL.buildS pl_23 zp_23 rfl rfl ?_
          refine SXL.move rfl ?_
          refine SXL.store 1 sz_23 rfl rfl rfl rfl rfl rfl ?_
          refine SXL.assign rfl ?_
          refine SXL.nil ?_
          refine thenQ.normal ?_
          refine SX.ret ?_
          refine blockQ.ret ?_
          refine thenQ.ret ?_
          refine retQ.dead [] rfl ?_
          refine retQ.two (ResAt.cellNo 1 sh_23 rfl rfl rfl) (ResAt.tmp rfl) ?_
          have he : fillE s week bucket = toldE s week := by rw [fillE, if_neg (not_not_intro hv), if_neg (not_not_intro hwk), if_neg (not_not_intro hbk), if_pos c38]
          rw [fillLo, fillHi, if_neg (by rw [he]; omega), if_neg (by rw [he]; omega), he]
        · refine SX.seq ?_
          refine SX.region ?_
          refine SXL.fieldAddr fp_23_0 rfl ?_
          refine SXL.load1o 4 sh_3 rfl rfl rfl ?_
          refine SXL.eqlI rfl rfl ?_
          refine SXL.assign rfl ?_
          refine SXL.nil ?_
          refine thenQ.normal ?_
          refine SX.condP rfl (fun c43 => ?_) (fun c43 => ?_)
          · refine SX.seq ?_
            refine SX.region ?_
            refine SXL.buildS pl_23 zp_23 rfl rfl ?_
            refine SXL.store 1 sz_23 rfl rfl rfl rfl rfl rfl ?_
            refine SXL.assign rfl ?_
            refine SXL.nil ?_
            refine thenQ.normal ?_
            refine SX.ret ?_
            refine blockQ.ret ?_
            refine thenQ.ret ?_
            refine retQ.dead [] rfl ?_
            refine retQ.two (ResAt.cellNo 1 sh_23 rfl rfl rfl) (ResAt.tmp rfl) ?_
            have he : fillE s week bucket = 6 := by rw [fillE, if_neg (not_not_intro hv), if_neg (not_not_intro hwk), if_neg (not_not_intro hbk), if_neg c38, if_pos c43]
            rw [fillLo, fillHi, if_neg (by rw [he]; omega), if_neg (by rw [he]; omega), he]
          · refine SX.skip ?_
            refine blockQ.normal ?_
            refine thenQ.normal ?_
            refine SX.seq ?_
            have he0 := Decidable.not_not.1 c38
            obtain ⟨g1, g2⟩ := gives_bd he0
            refine SX.draw 15 (by kernel_rfl) (by kernel_rfl) {} ?_
            refine SXA.take 0 15 rfl (by kernel_rfl) rfl ?_
            refine SXL.move rfl ?_
            refine SXL.mul rfl rfl (by omega) ?_
            refine SXL.fieldAddr fp_23_1 rfl ?_
            refine SXL.load1o 4 sh_3 rfl rfl rfl ?_
            refine SXL.quo rfl rfl (by omega) ?_
            refine SXL.move rfl ?_
            refine SXL.mul rfl rfl (by omega) ?_
            refine SXL.fieldAddr fp_23_0 rfl ?_
            refine SXL.load1o 4 sh_3 rfl rfl rfl ?_
            refine SXL.add rfl rfl (by omega) ?_
            refine SXL.sub rfl rfl (by omega) ?_
            refine SXL.fieldAddr fp_23_0 rfl ?_
            refine SXL.load1o 4 sh_3 rfl rfl rfl ?_
            refine SXL.quo rfl rfl (by omega) ?_
            refine SXL.buildS pl_23 zp_23 rfl rfl ?_
            refine SXL.nil ⟨rfl, rfl, rfl, ?_⟩
            refine SXA.done (by kernel_rfl) ?_
            refine SXL.store 1 sz_23 rfl rfl rfl rfl rfl rfl ?_
            refine SXL.assign rfl ?_
            refine SXL.nil ?_
            refine thenQ.normal ?_
            refine SX.ret ?_
            refine retQ.dead [] rfl ?_
            refine retQ.two (ResAt.cellNo 1 sh_23 rfl rfl rfl) (ResAt.tmp rfl) ?_
            have he : fillE s week bucket = 0 := by rw [fillE, if_neg (not_not_intro hv), if_neg (not_not_intro hwk), if_neg (not_not_intro hbk), if_neg c38, if_neg c43]
            rw [fillLo, fillHi, if_pos he, if_pos he, he]
set_option maxHeartbeats 3000000 in
theorem sleft_any (s : Sp) (bo ro : Option Addr) (bc rc : Nat) (week : Nat) (hv : SpP s) (hw : week < s.weeks.toNat) (w : World) (hg : Gl w) (hs : SpAt w s bo ro) :
    CallsR Tryd.prog 105 [.agg ⟨watC s bo ro bc rc (flL s)⟩, .int .i64 ((week : Int))] w (fun v _ => v = .int .i64 (leftP s week)) := by
  have hH := hv.1
  unfold HeadP at hH
  have hfl : (flL s).length = 20 := (relW hv).lr
  have hfw := fl_week hv hw
  have hlN : leftN s week = (G (baseL s) (10 + week) + 1 - G (baseL s) week).toNat := rfl
  refine CallsR.of_SX (n := 57) (rs := [.tmp 4]) Tryd.func105 rfl rfl rfl rfl ?_
  show SX _ _ _ ⟨[(0, .agg ⟨watC s bo ro bc rc (flL s)⟩), (1, .int .i64 ((week : Int)))], [], []⟩
  refine SX.seq ?_
  refine SX.region ?_
  refine SXL.box rfl rfl ?_; intro b0
  refine SXL.assign rfl ?_
  refine SXL.nil ?_
  refine thenQ.normal ?_
  refine SX.seq ?_
  refine SX.region ?_
  refine SXL.assign rfl ?_
  refine SXL.nil ?_
  refine thenQ.normal ?_
  refine SX.seq ?_
  refine SX.region ?_
  refine SXL.move rfl ?_
  refine SXL.fieldAddr fp_117_1 rfl ?_
  refine SXL.indexA el_114 rfl rfl (by omega) ?_
  refine SXL.loadNo 0 sh_23 rfl rfl (takeApp 9 rfl (ints_take2' (M := flL s) (i := week) rfl (by omega)) (by simp <;> omega)) ?_
  refine SXL.alloc zp_23 ?_; intro b1
  refine SXL.store 1 sz_23 rfl rfl rfl rfl rfl rfl ?_
  refine SXL.nil ?_
  refine thenQ.normal ?_
  refine SX.seq ?_
  refine SX.seq ?_
  refine SX.region ?_
  refine SXL.fieldAddr fp_23_0 rfl ?_
  refine SXL.load1o 1 sh_3 rfl rfl rfl ?_
  refine SXL.assign rfl ?_
  refine SXL.nil ?_
  refine thenQ.normal ?_
  refine SX.block ?_
  refine SX.loopG (α := Nat × List Int) [1, 2, 4, 6] rfl (fun ⟨k, M⟩ => [(7, .int .i64 ((Lo (flL s) week + ((k : Nat) : Int)))), (5, .int .i64 ((leftTo s week k)))]) (fun ⟨k, M⟩ => [(0, (b0, .cells ⟨watC s bo ro bc rc M⟩ 117 (0, 0)))]) (fun ⟨k, M⟩ => k ≤ leftN s week ∧ M.length = 20 ∧ ∀ p, set2 M week p = set2 (flL s) week p) (fun ⟨k, M⟩ => leftN s week - k) (0, flL s) ⟨Nat.zero_le _, hfl, fun _ => rfl⟩ ⟨congrArg (fun z => some (Value.int .i64 z)) (show Lo (flL s) week = Lo (flL s) week + ((0 : Nat) : Int) by omega), rfl, trivial⟩ rfl ?_
  rintro ⟨k, M⟩ ⟨hk, hMl, hM2⟩
  refine SX.seq ?_
  refine SX.seq ?_
  refine SX.region ?_
  refine SXL.move rfl ?_
  refine SXL.fieldAddr fp_23_1 rfl ?_
  refine SXL.load1o 1 sh_3 rfl rfl rfl ?_
  refine SXL.leq rfl rfl ?_
  refine SXL.nil ?_
  refine thenQ.normal ?_
  refine SX.condP rfl (fun c22 => ?_) (fun c22 => ?_)
  · refine SX.skip ?_
    refine thenQ.normal ?_
    refine SX.seq ?_
    refine SX.block ?_
    refine SX.seq ?_
    have heq : Lo (flL s) week = G (baseL s) week ∧ 0 ≤ (Lo (flL s) week + ((k : Nat) : Int)) ∧ (Lo (flL s) week + ((k : Nat) : Int)) ≤ 100 := by omega
    have hkN : k < leftN s week := by omega
    have hlb := leftTo_bd hv hw k (by omega)
    have hB1 := (baseL_Bd hv).one (w := week) (n := (Lo (flL s) week + ((k : Nat) : Int))) (by omega)
    refine SX.region ?_
    refine SXL.move rfl ?_
    refine SXL.move rfl ?_
    refine SXL.move rfl ?_
    refine SXL.buildS pl_23 zp_23 rfl rfl ?_
    refine SXL.fieldAddr fp_117_1 rfl ?_
    refine SXL.indexA el_114 rfl rfl (by omega) ?_
    refine SXL.store 0 sz_23 rfl rfl rfl rfl rfl (putApp 9 rfl (ints_put2' (M := M) (i := week) (p := ((Lo (flL s) week + ((k : Nat) : Int)), (Lo (flL s) week + ((k : Nat) : Int)))) rfl (by omega)) (by simp <;> omega)) ?_
    refine SXL.nil ?_
    refine thenQ.normal ?_
    refine SX.seq ?_
    refine SX.region ?_
    refine SXL.loadNo 0 sh_117 rfl rfl (takeAt_full (watC_len (by simp [hMl]))) ?_
    refine SXL.call1 (.tuple ⟨[.agg ⟨ints (outL s.weeks.toNat (lvsL s (oneW (baseL s) week (Lo (flL s) week + ((k : Nat) : Int))) (rnsL s (oneW (baseL s) week (Lo (flL s) week + ((k : Nat) : Int))))))⟩, .bool (decide (rnsL s (oneW (baseL s) week (Lo (flL s) week + ((k : Nat) : Int))) ≠ []))]⟩) fn_73 rfl (fun w hI => spans_any s bo ro bc rc (set2 M week ((Lo (flL s) week + ((k : Nat) : Int)), (Lo (flL s) week + ((k : Nat) : Int)))) (oneW (baseL s) week (Lo (flL s) week + ((k : Nat) : Int))) hv (by rw [hM2]; exact relOne hv hw (by omega)) _ (hg.inv hI) (hs.inv hI)) ?_
    refine SXL.move rfl ?_
    refine SXL.extract rfl rfl ?_
    refine SXL.extract rfl rfl ?_
    refine SXL.alloc zp_114 ?_; intro b2
    refine SXL.store 2 sz_114 rfl rfl rfl rfl (by simp [outL]) (putAt_all _ _ (by simp [outL])) ?_ (ints_isOne _)
    refine SXL.assign rfl ?_
    refine SXL.nil ?_
    refine thenQ.normal ?_
    refine SX.seq ?_
    refine SX.region ?_
    refine SXL.assign rfl ?_
    refine SXL.nil ?_
    refine thenQ.normal ?_
    refine SX.seq ?_
    refine SX.seq ?_
    refine SX.region ?_
    refine SXL.fieldAddr fp_117_0 rfl ?_
    refine SXL.fieldAddr fp_27_0 rfl ?_
    refine SXL.load1o 0 sh_3 rfl rfl rfl ?_
    refine SXL.sliceAH el_114 rfl rfl (by omega) ?_
    refine SXL.len is_179 rfl ?_
    refine SXL.move rfl ?_
    refine SXL.nil ?_
    refine thenQ.normal ?_
    refine SX.block ?_
    refine SX.loopG (α := Nat) [1, 2, 4, 5, 6, 7, 39, 40] rfl (fun j => [(41, .int .i64 ((j : Int))), (10, .int .i64 ((widM (outL s.weeks.toNat (lvsL s (oneW (baseL s) week (Lo (flL s) week + ((k : Nat) : Int))) (rnsL s (oneW (baseL s) week (Lo (flL s) week + ((k : Nat) : Int)))))) j)))]) (fun j => []) (fun j => j ≤ s.weeks.toNat) (fun j => s.weeks.toNat - j) 0 (Nat.zero_le _) ⟨rfl, rfl, trivial⟩ rfl ?_
    rintro j hj
    refine SX.seq ?_
    refine SX.region ?_
    refine SXL.lss rfl rfl ?_
    refine SXL.nil ?_
    refine thenQ.normal ?_
    refine SX.seq ?_
    refine SX.condP rfl (fun c2 => ?_) (fun c2 => ?_)
    · refine SX.skip ?_
      refine thenQ.normal ?_
      refine SX.seq ?_
      refine SX.block ?_
      refine SX.seq ?_
      refine SX.region ?_
      refine SXL.indexS el_179 rfl rfl (by omega) ?_
      refine SXL.loadNo 2 sh_23 rfl rfl (ints_take2' (M := (outL s.weeks.toNat (lvsL s (oneW (baseL s) week (Lo (flL s) week + ((k : Nat) : Int))) (rnsL s (oneW (baseL s) week (Lo (flL s) week + ((k : Nat) : Int))))))) (i := j) (by simp <;> omega) (by simp [outL]; omega)) ?_
      refine SXL.alloc zp_23 ?_; intro b3
      refine SXL.store 3 sz_23 rfl rfl rfl rfl rfl rfl ?_
      refine SXL.nil ?_
      refine thenQ.normal ?_
      have hwb := widM_bd hv hB1 (k := j) (by omega)
      have hob := out_bd hv hB1 (k := j) (by omega)
      refine SX.region ?_
      refine SXL.move rfl ?_
      refine SXL.fieldAddr fp_23_1 rfl ?_
      refine SXL.load1o 3 sh_3 rfl rfl rfl ?_
      refine SXL.fieldAddr fp_23_0 rfl ?_
      refine SXL.load1o 3 sh_3 rfl rfl rfl ?_
      refine SXL.sub rfl rfl (by omega) ?_
      refine SXL.add rfl rfl (by omega) ?_
      refine SXL.assign rfl ?_
      refine SXL.nil ?_
      refine blockQ.normal ?_
      refine thenQ.normal ?_
      refine SX.region ?_
      refine SXL.add rfl rfl (by omega) ?_
      refine SXL.move rfl ?_
      refine SXL.nil ?_
      refine thenQ.normal ?_
      refine ⟨j + 1, Meets.mk _ ⟨rfl, rfl, trivial⟩ ⟨rfl, rfl, rfl, rfl, rfl, rfl, rfl, rfl, trivial⟩ rfl, (by omega), (by omega)⟩
    · refine SX.exit ?_
      refine thenQ.exit ?_
      refine thenQ.exit ?_
      refine blockQ.exit ?_
      refine thenQ.normal ?_
      obtain rfl : j = s.weeks.toNat := by omega
      have hwb := widM_bd hv hB1 (k := s.weeks.toNat) (by omega)
      refine SX.region ?_
      refine SXL.move rfl ?_
      refine SXL.move rfl ?_
      refine SXL.max rfl rfl ?_
      refine SXL.assign rfl ?_
      refine SXL.nil ?_
      refine blockQ.normal ?_
      refine thenQ.normal ?_
      refine SX.region ?_
      refine SXL.move rfl ?_
      refine SXL.add rfl rfl (by omega) ?_
      refine SXL.assign rfl ?_
      refine SXL.nil ?_
      refine thenQ.normal ?_
      refine ⟨(k + 1, _), Meets.mk _ ⟨congrArg (fun z => some (Value.int .i64 z)) (show Lo (flL s) week + (k : Int) + 1 = Lo (flL s) week + ((k + 1 : Nat) : Int) by omega), congrArg (fun z => some (Value.int .i64 z)) (show max (leftTo s week k) (widM (outL s.weeks.toNat (lvsL s (oneW (baseL s) week (Lo (flL s) week + ((k : Nat) : Int))) (rnsL s (oneW (baseL s) week (Lo (flL s) week + ((k : Nat) : Int)))))) s.weeks.toNat) = leftTo s week (k + 1) from by rw [wide_max hv hlb.1, leftTo, heq.1]), trivial⟩ ⟨rfl, rfl, rfl, rfl, trivial⟩ rfl, ⟨by omega, by simp [hMl], fun p => by rw [set2_set2, hM2]⟩, (show leftN s week - (k + 1) < leftN s week - k by omega)⟩
  · refine SX.exit ?_
    refine thenQ.exit ?_
    refine thenQ.exit ?_
    refine blockQ.exit ?_
    refine thenQ.normal ?_
    refine SX.seq ?_
    obtain rfl : k = leftN s week := by omega
    refine SX.region ?_
    refine SXL.move rfl ?_
    refine SXL.assign rfl ?_
    refine SXL.nil ?_
    refine thenQ.normal ?_
    refine SX.ret ?_
    refine retQ.dead [] rfl ?_
    refine retQ.one (ResAt.tmp rfl) ?_
    rfl
theorem minInts (l : List Int) (ao : Option Addr) (c : Nat) (hl : 0 < l.length) (hl2 : l.length ≤ 1000) (w : World) (h : RowsAt w ao 1 (ones l)) :
    CallsR Tryd.prog 128 [.slice ao l.length c, .func (.func 91) ⟨[]⟩ ⟨[]⟩] w (fun v _ => v = .int .i64 (l.getD (amin (fun i => l.getD i 0) (l.length - 1)) 0)) := by
  refine CallsR.of_SX (n := 33) (rs := [.tmp 4]) Tryd.func128 rfl rfl rfl rfl ?_
  show SX _ _ _ ⟨[(0, .slice ao l.length c), (1, .func (.func 91) ⟨[]⟩ ⟨[]⟩)], [], []⟩
  refine SX.seq ?_
  refine SX.region ?_
  refine SXL.assign rfl ?_
  refine SXL.nil ?_
  refine thenQ.normal ?_
  refine SX.seq ?_
  refine SX.seq ?_
  refine SX.region ?_
  refine SXL.move rfl ?_
  refine SXL.len is_35 rfl ?_
  refine SXL.lss rfl rfl ?_
  refine SXL.nil ?_
  refine thenQ.normal ?_
  refine SX.condP rfl (fun c9 => ?_) (fun c9 => ?_)
  · exfalso; omega
  refine SX.skip ?_
  refine thenQ.normal ?_
  refine SX.seq ?_
  obtain ⟨ba, oa, ha0, hm0⟩ := oneI h hl
  refine SX.region ?_
  refine SXL.move rfl ?_
  refine SXL.indexR el_35 rfl rfl ha0 (by omega) ?_
  refine SXL.load1 sh_3 rfl (hm0 _) ?_
  refine SXL.assign rfl ?_
  refine SXL.nil ?_
  refine thenQ.normal ?_
  refine SX.seq ?_
  refine SX.seq ?_
  refine SX.region ?_
  refine SXL.assign rfl ?_
  refine SXL.nil ?_
  refine thenQ.normal ?_
  refine SX.block ?_
  refine SX.loopG (α := Nat) [0, 1, 4] rfl (fun k => [(6, .int .i64 ((k : Int))), (5, .int .i64 ((l.getD (amin (fun i => l.getD i 0) (k - 1)) 0)))]) (fun k => []) (fun k => 1 ≤ k ∧ k ≤ l.length) (fun k => l.length - k) 1 ⟨Nat.le_refl _, by omega⟩ ⟨rfl, rfl, trivial⟩ rfl ?_
  rintro k ⟨hk1, hk⟩
  refine SX.seq ?_
  refine SX.seq ?_
  refine SX.region ?_
  refine SXL.move rfl ?_
  refine SXL.move rfl ?_
  refine SXL.len is_35 rfl ?_
  refine SXL.lss rfl rfl ?_
  refine SXL.nil ?_
  refine thenQ.normal ?_
  refine SX.condP rfl (fun c17 => ?_) (fun c17 => ?_)
  · refine SX.skip ?_
    refine thenQ.normal ?_
    refine SX.seq ?_
    refine SX.block ?_
    refine SX.seq ?_
    obtain ⟨b, o, ha, hm⟩ := oneI h (i := k) (by omega)
    refine SX.region ?_
    refine SXL.move rfl ?_
    refine SXL.move rfl ?_
    refine SXL.move rfl ?_
    refine SXL.indexR el_35 rfl rfl ha (by omega) ?_
    refine SXL.load1 sh_3 rfl (hm _) ?_
    refine SXL.move rfl ?_
    refine SXL.call1V (.int .i64 (cmpV (l.getD k 0) (l.getD (amin (fun i => l.getD i 0) (k - 1)) 0))) fn_91 rfl rfl (fun w hI => compare_any _ _ _) ?_
    refine SXL.lss rfl rfl ?_
    refine SXL.nil ?_
    refine thenQ.normal ?_
    refine SX.condP rfl (fun c27 => ?_) (fun c27 => ?_)
    · refine SX.region ?_
      refine SXL.move rfl ?_
      refine SXL.move rfl ?_
      refine SXL.indexR el_35 rfl rfl ha (by omega) ?_
      refine SXL.load1 sh_3 rfl (hm _) ?_
      refine SXL.assign rfl ?_
      refine SXL.nil ?_
      refine blockQ.normal ?_
      refine thenQ.normal ?_
      refine SX.region ?_
      refine SXL.move rfl ?_
      refine SXL.add rfl rfl (by omega) ?_
      refine SXL.assign rfl ?_
      refine SXL.nil ?_
      refine thenQ.normal ?_
      refine ⟨k + 1, Meets.mk _ ⟨rfl, (by
        first
        | exact congrArg (fun z : Nat => some (Value.int .i64 (l.getD z 0))) (show k = amin (fun i => l.getD i 0) k from by rw [amin_at _ hk1, if_pos (cmpV_neg.1 c27)])
        | exact congrArg (fun z : Nat => some (Value.int .i64 (l.getD z 0))) (show amin (fun i => l.getD i 0) (k - 1) = amin (fun i => l.getD i 0) k from by rw [amin_at _ hk1, if_neg (fun h => c27 (cmpV_neg.2 h))])), trivial⟩ ⟨rfl, rfl, rfl, trivial⟩ rfl, ⟨by omega, by omega⟩, (by omega)⟩
    · refine SX.skip ?_
      refine blockQ.normal ?_
      refine thenQ.normal ?_
      refine SX.region ?_
      refine SXL.move rfl ?_
      refine SXL.add rfl rfl (by omega) ?_
      refine SXL.assign rfl ?_
      refine SXL.nil ?_
      refine thenQ.normal ?_
      refine ⟨k + 1, Meets.mk _ ⟨rfl, (by
        first
        | exact congrArg (fun z : Nat => some (Value.int .i64 (l.getD z 0))) (show k = amin (fun i => l.getD i 0) k from by rw [amin_at _ hk1, if_pos (cmpV_neg.1 c27)])
        | exact congrArg (fun z : Nat => some (Value.int .i64 (l.getD z 0))) (show amin (fun i => l.getD i 0) (k - 1) = amin (fun i => l.getD i 0) k from by rw [amin_at _ hk1, if_neg (fun h => c27 (cmpV_neg.2 h))])), trivial⟩ ⟨rfl, rfl, rfl, trivial⟩ rfl, ⟨by omega, by omega⟩, (by omega)⟩
  · refine SX.exit ?_
    refine thenQ.exit ?_
    refine thenQ.exit ?_
    refine blockQ.exit ?_
    refine thenQ.normal ?_
    refine SX.seq ?_
    obtain rfl : k = l.length := by omega
    refine SX.region ?_
    refine SXL.move rfl ?_
    refine SXL.assign rfl ?_
    refine SXL.nil ?_
    refine thenQ.normal ?_
    refine SX.ret ?_
    refine retQ.one (ResAt.tmp rfl) ?_
    rfl
theorem firstInts (l : List Int) (ao : Option Addr) (c : Nat) (hl : 0 < l.length) (hl2 : l.length ≤ 1000) (w : World) (h : RowsAt w ao 1 (ones l)) :
    CallsR Tryd.prog 106 [.slice ao l.length c, .func (.func 91) ⟨[]⟩ ⟨[]⟩] w (fun v _ => v = .int .i64 (l.getD (amin (fun i => l.getD i 0) (l.length - 1)) 0)) := by
  refine CallsR.of_SX (n := 8) (rs := [.tmp 4]) Tryd.func106 rfl rfl rfl rfl ?_
  show SX _ _ _ ⟨[(0, .slice ao l.length c), (1, .func (.func 91) ⟨[]⟩ ⟨[]⟩)], [], []⟩
  refine SX.seq ?_
  refine SX.region ?_
  refine SXL.assign rfl ?_
  refine SXL.nil ?_
  refine thenQ.normal ?_
  refine SX.seq ?_
  refine SX.region ?_
  refine SXL.move rfl ?_
  refine SXL.move rfl ?_
  refine SXL.call1 (.int .i64 (l.getD (amin (fun i => l.getD i 0) (l.length - 1)) 0)) fn_128 rfl (fun w hI => minInts l ao c hl hl2 _ (h.inv hI)) ?_
  refine SXL.assign rfl ?_
  refine SXL.nil ?_
  refine thenQ.normal ?_
  refine SX.ret ?_
  refine retQ.one (ResAt.tmp rfl) ?_
  rfl
theorem indexInts (l : List Int) (x : Int) (ao : Option Addr) (c : Nat) (hl2 : l.length ≤ 1000000) (w : World) (h : RowsAt w ao 1 (ones l)) :
    CallsR Tryd.prog 107 [.slice ao l.length c, .int .i64 x] w (fun v _ => v = .int .i64 (idxF (fun k => x = l.getD k 0) l.length)) := by
  refine CallsR.of_SX (n := 19) (rs := [.tmp 4]) Tryd.func107 rfl rfl rfl rfl ?_
  show SX _ _ _ ⟨[(0, .slice ao l.length c), (1, .int .i64 x)], [], []⟩
  refine SX.seq ?_
  refine SX.region ?_
  refine SXL.assign rfl ?_
  refine SXL.nil ?_
  refine thenQ.normal ?_
  refine SX.seq ?_
  refine SX.seq ?_
  refine SX.region ?_
  refine SXL.move rfl ?_
  refine SXL.len is_35 rfl ?_
  refine SXL.move rfl ?_
  refine SXL.nil ?_
  refine thenQ.normal ?_
  refine SX.block ?_
  refine SX.loopG (α := Nat) [0, 1, 4, 7] rfl (fun k => [(8, .int .i64 ((k : Int)))]) (fun k => []) (fun k => k ≤ l.length ∧ ∀ i, i < k → ¬x = l.getD i 0) (fun k => l.length - k) 0 ⟨Nat.zero_le _, fun _ h => absurd h (Nat.not_lt_zero _)⟩ ⟨rfl, trivial⟩ rfl ?_
  rintro k ⟨hk, hall⟩
  refine SX.seq ?_
  refine SX.region ?_
  refine SXL.lss rfl rfl ?_
  refine SXL.nil ?_
  refine thenQ.normal ?_
  refine SX.seq ?_
  refine SX.condP rfl (fun c9 => ?_) (fun c9 => ?_)
  · refine SX.skip ?_
    refine thenQ.normal ?_
    refine SX.seq ?_
    refine SX.block ?_
    refine SX.seq ?_
    refine SX.region ?_
    refine SXL.move rfl ?_
    refine SXL.assign rfl ?_
    refine SXL.nil ?_
    refine thenQ.normal ?_
    refine SX.seq ?_
    obtain ⟨b, o, ha, hm⟩ := oneI h (i := k) (by omega)
    refine SX.region ?_
    refine SXL.move rfl ?_
    refine SXL.move rfl ?_
    refine SXL.move rfl ?_
    refine SXL.indexR el_35 rfl rfl ha (by omega) ?_
    refine SXL.load1 sh_3 rfl (hm _) ?_
    refine SXL.eqlI rfl rfl ?_
    refine SXL.nil ?_
    refine thenQ.normal ?_
    refine SX.condP rfl (fun c16 => ?_) (fun c16 => ?_)
    · refine SX.seq ?_
      refine SX.region ?_
      refine SXL.move rfl ?_
      refine SXL.assign rfl ?_
      refine SXL.nil ?_
      refine thenQ.normal ?_
      refine SX.ret ?_
      refine blockQ.ret ?_
      refine thenQ.ret ?_
      refine thenQ.ret ?_
      refine blockQ.ret ?_
      refine thenQ.ret ?_
      refine retQ.one (ResAt.tmp rfl) ?_
      exact congrArg (Value.int .i64) (idxF_some (p := fun k => x = l.getD k 0) (by omega) c16 hall).symm
    · refine SX.skip ?_
      refine blockQ.normal ?_
      refine thenQ.normal ?_
      refine SX.region ?_
      refine SXL.add rfl rfl (by omega) ?_
      refine SXL.move rfl ?_
      refine SXL.nil ?_
      refine thenQ.normal ?_
      refine ⟨k + 1, Meets.mk _ ⟨rfl, trivial⟩ ⟨rfl, rfl, rfl, rfl, trivial⟩ rfl, ?_, (by omega)⟩
      refine ⟨by omega, fun i hi => ?_⟩
      by_cases e : i = k
      · subst e; exact c16
      · exact hall i (by omega)
  · refine SX.exit ?_
    refine thenQ.exit ?_
    refine thenQ.exit ?_
    refine blockQ.exit ?_
    refine thenQ.normal ?_
    refine SX.seq ?_
    refine SX.region ?_
    refine SXL.assign rfl ?_
    refine SXL.nil ?_
    refine thenQ.normal ?_
    refine SX.ret ?_
    refine retQ.one (ResAt.tmp rfl) ?_
    exact congrArg (Value.int .i64) (idxF_none (p := fun k => x = l.getD k 0) fun i hi => hall i (by omega)).symm
set_option maxHeartbeats 2000000 in
theorem slook_any (s : Sp) (bo ro : Option Addr) (bc rc : Nat) (hb : s.book.length ≤ 1000000) (hr : s.reads.length ≤ 1000000) (w : World) (hg : Gl w) (hs : SpAt w s bo ro) :
    CallsR Tryd.prog 52 [.agg ⟨[.int .i64 s.weeks, .int .i64 s.most, .int .i64 s.fall, .int .i64 s.a0, .int .i64 s.a1, .int .i64 s.w0, .int .i64 s.w1, (.slice bo s.book.length bc), (.slice ro s.reads.length rc)]⟩] w (fun v _ => v = .tuple ⟨[.int .i64 (lookW s), .int .i64 (lookV s), .int .i64 (toldE s 0)]⟩) := by
  refine CallsR.of_SX (n := 40) (rs := [.tmp 2, .tmp 3, .tmp 4]) Tryd.func52 rfl rfl rfl rfl ?_
  show SX _ _ _ ⟨[(0, .agg ⟨[.int .i64 s.weeks, .int .i64 s.most, .int .i64 s.fall, .int .i64 s.a0, .int .i64 s.a1, .int .i64 s.w0, .int .i64 s.w1, (.slice bo s.book.length bc), (.slice ro s.reads.length rc)]⟩)], [], []⟩
  refine SX.seq ?_
  refine SX.region ?_
  refine SXL.box rfl rfl ?_; intro b0
  refine SXL.assign rfl ?_
  refine SXL.assign rfl ?_
  refine SXL.assign rfl ?_
  refine SXL.nil ?_
  refine thenQ.normal ?_
  refine SX.seq ?_
  refine SX.region ?_
  refine SXL.loadNo 0 sh_27 rfl rfl rfl ?_
  refine SXL.callP (AskR s bo ro bc rc (True) 0) fn_75 rfl (fun w hI => asked_any s bo ro bc rc (True) 0 hb hr w (hg.inv hI) (hs.inv hI)) ?_; rintro _ ⟨W, O, hW1, hW2, hO, rfl, hok⟩
  refine SXL.move rfl ?_
  refine SXL.extract rfl rfl ?_
  refine SXL.extract rfl rfl ?_
  refine SXL.extract rfl rfl ?_
  refine SXL.alloc zp_117 ?_; intro b1
  refine SXL.alloc zp_114 ?_; intro b2
  refine SXL.store 1 sz_117 rfl rfl rfl rfl hW1 (putAt_all _ _ (by simp [hW1])) ?_ hW2
  refine SXL.store 2 sz_114 rfl rfl rfl rfl (by simp [hO]) (putAt_all _ _ (by simp [hO])) ?_ (ints_isOne _)
  refine SXL.assign rfl ?_
  refine SXL.nil ?_
  refine thenQ.normal ?_
  refine SX.seq ?_
  refine SX.seq ?_
  refine SX.region ?_
  refine SXL.move rfl ?_
  refine SXL.neqI rfl rfl ?_
  refine SXL.nil ?_
  refine thenQ.normal ?_
  refine SX.condP rfl (fun c17 => ?_) (fun c17 => ?_)
  · refine SX.seq ?_
    refine SX.region ?_
    refine SXL.move rfl ?_
    refine SXL.assign rfl ?_
    refine SXL.assign rfl ?_
    refine SXL.assign rfl ?_
    refine SXL.nil ?_
    refine thenQ.normal ?_
    refine SX.ret ?_
    refine thenQ.ret ?_
    refine retQ.dead [] rfl ?_
    refine retQ.three (ResAt.tmp rfl) (ResAt.tmp rfl) (ResAt.tmp rfl) ?_
    have hne : toldE s 0 ≠ 0 := fun h => c17 ((askT s).trans h)
    rw [lookW, lookV, if_neg hne, if_neg hne, askT]
  · refine SX.skip ?_
    refine thenQ.normal ?_
    refine SX.seq ?_
    have hcc := Decidable.not_not.1 c17
    have hTo : toldE s 0 = 0 := (askT s).symm.trans hcc
    obtain ⟨hv, hwk, ht⟩ := toldE_valid hTo
    obtain ⟨rfl, rfl⟩ := hok hv trivial ht
    have hH := hv.1
    unfold HeadP at hH
    refine SX.region ?_
    refine SXL.loadNo 1 sh_117 rfl rfl (takeAt_full (watC_len (by simp [flL]))) ?_
    refine SXL.makeFunc rfl rfl ?_
    refine SXL.assign rfl ?_
    refine SXL.nil ?_
    refine thenQ.normal ?_
    refine SX.seq ?_
    refine SX.pad (Sl.nil.ent 3 []) rfl ?_
    refine SX.region ?_
    refine SXL.assign rfl ?_
    refine SXL.nil ?_
    refine thenQ.normal ?_
    refine SX.seq ?_
    refine SX.seq ?_
    refine SX.region ?_
    refine SXL.fieldAddr fp_117_0 rfl ?_
    refine SXL.fieldAddr fp_27_0 rfl ?_
    refine SXL.load1o 1 sh_3 rfl rfl rfl ?_
    refine SXL.move rfl ?_
    refine SXL.nil ?_
    refine thenQ.normal ?_
    refine SX.block ?_
    refine SX.loopG (α := Nat × Sl × Nat × List Value) [2, 3, 4, 7, 23] rfl (fun ⟨k, q, n, c⟩ => [(24, .int .i64 ((k : Int))), (8, q.val n)]) (fun ⟨k, q, n, c⟩ => [(3, q.ent 3 c)]) (fun ⟨k, q, n, c⟩ => k ≤ s.weeks.toNat ∧ q.Ok n 1 c ∧ c = ints (leftsL s k)) (fun ⟨k, q, n, c⟩ => s.weeks.toNat - k) (0, Sl.nil, 0, []) ⟨Nat.zero_le _, .none _, rfl⟩ ⟨rfl, rfl, trivial⟩ rfl ?_
    rintro ⟨k, q, n, c⟩ ⟨hk, ho, rfl⟩
    have hn1 := Ok.n ho
    rw [leftsL_len] at hn1
    refine SX.seq ?_
    refine SX.region ?_
    refine SXL.lss rfl rfl ?_
    refine SXL.nil ?_
    refine thenQ.normal ?_
    refine SX.seq ?_
    refine SX.condP rfl (fun c25 => ?_) (fun c25 => ?_)
    · refine SX.skip ?_
      refine thenQ.normal ?_
      refine SX.seq ?_
      refine SX.block ?_
      refine SX.seq ?_
      refine SX.region ?_
      refine SXL.move rfl ?_
      refine SXL.assign rfl ?_
      refine SXL.nil ?_
      refine thenQ.normal ?_
      refine SX.region ?_
      refine SXL.move rfl ?_
      refine SXL.move rfl ?_
      refine SXL.move rfl ?_
      refine SXL.call1V (.int .i64 (leftP s k)) fn_105 rfl rfl (fun w hI => sleft_any s bo ro bc rc k hv (by omega) _ (hg.inv hI) (hs.inv hI)) ?_
      refine SXL.buildSlice et_35 zp_3 rfl rfl rfl rfl ?_; intro b4
      refine SXL.append 3 ap_35 rfl rfl ho rfl (.inr ⟨_, _, rfl, Mem.own (i := 4) rfl (takeAt_all _)⟩) rfl rfl ⟨by simp only [maxLen]; omega, by omega⟩ ?_; intro r_32 o_32
      refine SXL.assign rfl ?_
      refine SXL.nil ?_
      refine blockQ.normal ?_
      refine thenQ.normal ?_
      refine SX.region ?_
      refine SXL.add rfl rfl (by omega) ?_
      refine SXL.move rfl ?_
      refine SXL.nil ?_
      refine thenQ.normal ?_
      refine ⟨(k + 1, _, _, _), Meets.mk _ ⟨rfl, rfl, trivial⟩ ⟨rfl, rfl, rfl, rfl, rfl, trivial⟩ rfl, ⟨by omega, o_32, by rw [leftsL_succ, ints_snoc]; rfl⟩, (show s.weeks.toNat - (k + 1) < s.weeks.toNat - k by omega)⟩
    · refine SX.exit ?_
      refine thenQ.exit ?_
      refine thenQ.exit ?_
      refine blockQ.exit ?_
      refine thenQ.normal ?_
      refine SX.seq ?_
      obtain rfl : k = s.weeks.toNat := by omega
      have hne2 : n = (leftsL s s.weeks.toNat).length := Ok.n ho
      subst hne2
      refine SX.region ?_
      refine SXL.move rfl ?_
      refine SXL.call1 (.int .i64 (leftP s (lookI s))) fn_106 rfl (fun w hI => (firstInts (leftsL s s.weeks.toNat) q.addr q.cap (by simp; omega) (by simp; omega) _ (slOnes hI ho (i := 3) rfl)).eqv (congrArg (Value.int .i64) (look_min hv))) ?_
      refine SXL.assign rfl ?_
      refine SXL.nil ?_
      refine thenQ.normal ?_
      refine SX.seq ?_
      refine SX.region ?_
      refine SXL.move rfl ?_
      refine SXL.move rfl ?_
      refine SXL.call1 (.int .i64 (lookI s : Int)) fn_107 rfl (fun w hI => (indexInts (leftsL s s.weeks.toNat) (leftP s (lookI s)) q.addr q.cap (by simp; omega) _ (slOnes hI ho (i := 3) rfl)).eqv (congrArg (Value.int .i64) (by rw [leftsL_len]; exact look_first hv))) ?_
      refine SXL.move rfl ?_
      refine SXL.assign rfl ?_
      refine SXL.assign rfl ?_
      refine SXL.assign rfl ?_
      refine SXL.nil ?_
      refine thenQ.normal ?_
      refine SX.ret ?_
      refine retQ.dead [] rfl ?_
      refine retQ.three (ResAt.tmp rfl) (ResAt.tmp rfl) (ResAt.tmp rfl) ?_
      rw [lookW, lookV, if_pos hTo, if_pos hTo, hTo]
end Go.Proofs.YtknflipongbngaaDoor

/- The calculus' rules: blocks of a number that is not known, kept behind those that are. Nothing of the program stands here. -/
namespace Go.X
open Go Go.RowKit
theorem Sel.perm {own' own t : Own} (h : own.Perm (own' ++ t)) : Sel own' own := fun _ _ hI => (hI.perm h.symm).weaken (List.sublist_append_left _ _)
/-- New blocks go behind the first n. -/
theorem insN_sel (n : Nat) (own t : Own) : Sel (own.take n ++ t ++ own.drop n) (own ++ t) := by
  refine Sel.perm (t := []) ?_
  rw [List.append_nil]
  have h : (own.take n ++ own.drop n ++ t).Perm (own.take n ++ t ++ own.drop n) := by
    rw [List.append_assoc, List.append_assoc]
    exact List.Perm.append_left _ List.perm_append_comm
  rw [List.take_append_drop] at h
  exact h
theorem perm_eraseIdx {α : Type} : ∀ {l : List α} {j : Nat} {y : α}, l[j]? = some y → l.Perm (y :: l.eraseIdx j)
  | [], _, _, h => by simp at h
  | x :: l, 0, y, h => by simp at h; subst h; exact List.Perm.refl _
  | x :: l, j + 1, y, h => by
    have ih := perm_eraseIdx (l := l) (j := j) (y := y) (by simpa using h)
    exact (ih.cons x).trans (List.Perm.swap _ _ _)
section
variable {C : Cx} {Q : Post} {env : Env} {own : Own} {D : List Deferred} {ops : Array Oper}
theorem SXL.insN {l : List Oper} {t : Own} (n : Nat) (h : SXL C ops l Q ⟨env, own.take n ++ t ++ own.drop n, D⟩) : SXL C ops l Q ⟨env, own ++ t, D⟩ :=
  SXL.le (s' := ⟨env, own.take n ++ t ++ own.drop n, D⟩) ⟨EnvSub.refl _, insN_sel n own t, rfl⟩ h
theorem SX.insN {c : Code} {t : Own} (n : Nat) (h : SX C c Q ⟨env, own.take n ++ t ++ own.drop n, D⟩) : SX C c Q ⟨env, own ++ t, D⟩ :=
  SX.le (s' := ⟨env, own.take n ++ t ++ own.drop n, D⟩) ⟨EnvSub.refl _, insN_sel n own t, rfl⟩ h
variable {α : Type}
/-- What stands at a head: behind the first n blocks others, of which the list is named. -/
def AtV (n : Nat) (K : Env) (E : α → Env) (own0 : Own) (U : α → List (Nat × (Nat × Obj))) (B : α → Own) (D : List Deferred) (x : α) : St := ⟨E x ++ K, setAll (own0.take n) (U x) ++ B x, D⟩
def MeetsV (n : Nat) (K : Env) (E : α → Env) (own0 : Own) (U : α → List (Nat × (Nat × Obj))) (B : α → Own) (D : List Deferred) (x : α) (s : St) : Prop :=
  EnvLe (E x) s.env ∧ EnvLe K s.env ∧ Sel (setAll (own0.take n) (U x) ++ B x) s.own ∧ s.D = D
theorem MeetsV.le {n : Nat} {K : Env} {E : α → Env} {own0 : Own} {U : α → List (Nat × (Nat × Obj))} {B : α → Own} {x : α} {s : St} (h : MeetsV n K E own0 U B D x s) : Le (AtV n K E own0 U B D x) s := by
  obtain ⟨h1, h2, h3, h4⟩ := h
  exact ⟨(h1.append h2).sub, h3, h4.symm⟩
theorem mid_perm {own' : Own} {n n' : Nat} (hn : n ≤ n') : own' = own'.take n ++ (own'.drop n).take (n' - n) ++ own'.drop n' := by
  have h1 : own'.drop n' = (own'.drop n).drop (n' - n) := by rw [List.drop_drop]; congr 1; omega
  rw [h1, List.append_assoc, List.take_append_drop, List.take_append_drop]
/-- .. no block more. -/
theorem MeetsV.mk0 {n : Nat} {K : Env} {E : α → Env} {own0 : Own} {U : α → List (Nat × (Nat × Obj))} {B : α → Own} {x : α} {env' : Env} {own' : Own} (n' : Nat) (t : Own) (h1 : EnvLe (E x) env') (h2 : EnvLe K env')
    (h3 : setAll (own0.take n) (U x) = own'.take n) (h4 : own'.drop n' = B x ++ t) (hn : Nat.ble n n' = true := by rfl) : MeetsV n K E own0 U B D x ⟨env', own', D⟩ := by
  refine ⟨h1, h2, ?_, rfl⟩
  rw [h3]
  refine Sel.perm (t := (own'.drop n).take (n' - n) ++ t) ?_
  have h := mid_perm (own' := own') (Nat.le_of_ble_eq_true hn)
  rw [h4] at h
  show own'.Perm _
  refine (List.Perm.of_eq h).trans ?_
  rw [List.append_assoc, List.append_assoc]
  refine List.Perm.append_left _ ?_
  rw [← List.append_assoc, ← List.append_assoc]
  exact List.Perm.append_right _ List.perm_append_comm
/-- .. one block more: it stood at j. -/
theorem MeetsV.mk1 {n : Nat} {K : Env} {E : α → Env} {own0 : Own} {U : α → List (Nat × (Nat × Obj))} {B : α → Own} {x : α} {env' : Env} {own' : Own} (n' j : Nat) (b t : Own) (y : Nat × Obj) (h1 : EnvLe (E x) env') (h2 : EnvLe K env')
    (h3 : setAll (own0.take n) (U x) = own'.take n) (h4 : own'.drop n' = b ++ t) (hy : (own'.drop n)[j]? = some y) (hB : B x = b ++ [y]) (hn : Nat.ble n n' = true := by rfl) (hj : Nat.blt (n + j) n' = true := by rfl) : MeetsV n K E own0 U B D x ⟨env', own', D⟩ := by
  refine ⟨h1, h2, ?_, rfl⟩
  rw [h3, hB]
  have hn' := Nat.le_of_ble_eq_true hn
  have hj' : n + j < n' := by simpa [Nat.blt_eq] using hj
  have hm : ((own'.drop n).take (n' - n))[j]? = some y := by rw [List.getElem?_take, if_pos (by omega)]; exact hy
  have hp := perm_eraseIdx hm
  refine Sel.perm (t := ((own'.drop n).take (n' - n)).eraseIdx j ++ t) ?_
  have h := mid_perm (own' := own') hn'
  rw [h4] at h
  refine (List.Perm.of_eq h).trans ?_
  simp only [List.append_assoc]
  refine List.Perm.append_left _ ?_
  refine (List.Perm.append_right _ hp).trans ?_
  simp only [List.cons_append]
  have h5 : (y :: (((own'.drop n).take (n' - n)).eraseIdx j ++ (b ++ t))).Perm (b ++ (y :: (((own'.drop n).take (n' - n)).eraseIdx j ++ t))) := by
    refine List.Perm.trans ?_ List.perm_middle.symm
    refine List.Perm.cons _ ?_
    rw [← List.append_assoc, ← List.append_assoc]
    exact List.Perm.append_right _ List.perm_append_comm
  simpa using h5
theorem selV0 {n n' : Nat} {own' A b t : Own} (h3 : A = own'.take n) (h4 : own'.drop n' = b ++ t) (hn : Nat.ble n n' = true) : Sel (A ++ b) own' := by
  have h := MeetsV.mk0 (K := []) (E := fun _ : Unit => []) (own0 := A) (n := n) (U := fun _ => []) (B := fun _ => b) (D := []) (x := ()) (env' := []) n' t trivial trivial (by rw [h3]; simp [setAll, List.take_take]) h4 hn
  have h2 := h.2.2.1
  have e : setAll (A.take n) [] = A := by rw [h3]; simp [setAll, List.take_take]
  rw [e] at h2
  exact h2
theorem selV1 {n n' j : Nat} {own' A b t : Own} {y : Nat × Obj} (h3 : A = own'.take n) (h4 : own'.drop n' = b ++ t) (hy : (own'.drop n)[j]? = some y) (hn : Nat.ble n n' = true) (hj : Nat.blt (n + j) n' = true) : Sel (A ++ (b ++ [y])) own' := by
  have h := MeetsV.mk1 (K := []) (E := fun _ : Unit => []) (own0 := A) (n := n) (U := fun _ => []) (B := fun _ => b ++ [y]) (D := []) (x := ()) (env' := []) n' j b t y trivial trivial (by rw [h3]; simp [setAll, List.take_take]) h4 hy rfl hn hj
  have h2 := h.2.2.1
  have e : setAll (A.take n) [] = A := by rw [h3]; simp [setAll, List.take_take]
  rw [e] at h2
  exact h2
/-! ### heads at which the blocks are written out -/
def AtW (K : Env) (E : α → Env) (L B : α → Own) (D : List Deferred) (x : α) : St := ⟨E x ++ K, L x ++ B x, D⟩
def MeetsW (K : Env) (E : α → Env) (L B : α → Own) (D : List Deferred) (x : α) (s : St) : Prop := EnvLe (E x) s.env ∧ EnvLe K s.env ∧ Sel (L x ++ B x) s.own ∧ s.D = D
theorem MeetsW.le {K : Env} {E : α → Env} {L B : α → Own} {x : α} {s : St} (h : MeetsW K E L B D x s) : Le (AtW K E L B D x) s := by
  obtain ⟨h1, h2, h3, h4⟩ := h
  exact ⟨(h1.append h2).sub, h3, h4.symm⟩
theorem MeetsW.mk0 {K : Env} {E : α → Env} {L B : α → Own} {x : α} {env' : Env} {own' : Own} (n n' : Nat) (h1 : EnvLe (E x) env') (h2 : EnvLe K env') (h3 : L x = own'.take n) (h4 : own'.drop n' = B x) (hn : Nat.ble n n' = true := by rfl) : MeetsW K E L B D x ⟨env', own', D⟩ :=
  ⟨h1, h2, selV0 (t := []) h3 (by rw [List.append_nil]; exact h4) hn, rfl⟩
theorem MeetsW.mkJ {K : Env} {E : α → Env} {L B : α → Own} {x : α} {env' : Env} {own' : Own} (n n' : Nat) (t : Own) (h1 : EnvLe (E x) env') (h2 : EnvLe K env') (h3 : L x = own'.take n) (h4 : own'.drop n' = B x ++ t) (hn : Nat.ble n n' = true := by rfl) : MeetsW K E L B D x ⟨env', own', D⟩ :=
  ⟨h1, h2, selV0 (t := t) h3 h4 hn, rfl⟩
theorem MeetsW.mk1 {K : Env} {E : α → Env} {L B : α → Own} {x : α} {env' : Env} {own' : Own} (n n' j : Nat) (b : Own) (y : Nat × Obj) (h1 : EnvLe (E x) env') (h2 : EnvLe K env') (h3 : L x = own'.take n) (h4 : own'.drop n' = b) (hy : (own'.drop n)[j]? = some y) (hB : B x = b ++ [y])
    (hn : Nat.ble n n' = true := by rfl) (hj : Nat.blt (n + j) n' = true := by rfl) : MeetsW K E L B D x ⟨env', own', D⟩ :=
  ⟨h1, h2, by show Sel (L x ++ B x) own'; rw [hB]; exact selV1 (t := []) h3 (by rw [List.append_nil]; exact h4) hy hn hj, rfl⟩
/-- .. new blocks behind all. -/
theorem MeetsW.mkP {K : Env} {E : α → Env} {L B : α → Own} {x : α} {env' : Env} {own' : Own} (t : Own) (h1 : EnvLe (E x) env') (h2 : EnvLe K env') (h3 : L x ++ B x ++ t = own') : MeetsW K E L B D x ⟨env', own', D⟩ :=
  ⟨h1, h2, h3 ▸ Sel.pre _ t, rfl⟩
/-- .. where blocks have changed their places. -/
theorem MeetsW.mkS {K : Env} {E : α → Env} {L B : α → Own} {x : α} {env' : Env} {own' : Own} (is : List Nat) (h1 : EnvLe (E x) env') (h2 : EnvLe K env') (h3 : selI own' is = some (L x ++ B x)) (h4 : distinct is = true := by rfl) : MeetsW K E L B D x ⟨env', own', D⟩ :=
  ⟨h1, h2, Sel.of is h3 h4, rfl⟩
theorem SX.loopW {c : Code} (ks : List Nat) {K : Env} (hK : selE env ks = some K) (E : α → Env) (L B : α → Own) (F : α → Prop) (μ : α → Nat) (x0 : α) (hF0 : F x0)
    (hE : EnvLe (E x0) env) (hU : L x0 ++ B x0 = own)
    (round : ∀ x, F x → SX C c (thenQ (fun s' => ∃ x', MeetsW K E L B D x' s' ∧ F x' ∧ μ x' < μ x) Q) (AtW K E L B D x)) : SX C (.loop c) Q ⟨env, own, D⟩ :=
  SX.loop (AtW K E L B D) F μ x0 hF0 (MeetsW.le ⟨hE, selE_le hK, by rw [hU]; exact Sel.refl _, rfl⟩) fun x hx =>
    (round x hx).mono fun e s hq => by
      cases e
      case normal => obtain ⟨x', h1, h2, h3⟩ := hq; exact ⟨x', h1.le, h2, h3⟩
      all_goals exact hq
theorem SX.cutW {x y : Code} (ks : List Nat) {K : Env} (hK : selE env ks = some K) (E : α → Env) (L B : α → Own) (F : α → Prop)
    (h : SX C x (thenQ (fun s' => ∃ z, MeetsW K E L B D z s' ∧ F z) Q) ⟨env, own, D⟩)
    (h' : ∀ z, F z → SX C y Q (AtW K E L B D z)) : SX C (.seq x y) Q ⟨env, own, D⟩ :=
  (fun (_ : selE env ks = some K) => SX.cut (AtW K E L B D) F (h.mono fun e s hq => by
      cases e
      case normal => obtain ⟨x', h1, h2⟩ := hq; exact ⟨x', h1.le, h2⟩
      all_goals exact hq) h') hK
theorem stepQ.mkL0 {m f i : Nat} {kt : Lt} {listed : Array Bool} {s s' : St} (hl : lateB ops kt.late i = true) (h1 : maskL kt.mask s'.own = maskL kt.mask s.own) (h2 : s'.D = s.D) (h3 : SXA C ops m Q kt f (listed.setIfInBounds i true) s') : stepQ C ops m Q kt f listed i s .normal s' :=
  stepQ.mkL [] hl (by rw [List.append_nil]; exact h1) h2 h3
theorem retQ.selS {rs : List ResultVar} {R : Value → Own → Prop} {e : Exit} {o : Own} (hS : Sel o own) (h : retQ C rs (fun v _ => R v o) e ⟨env, own, []⟩) : retQ C rs R e ⟨env, own, []⟩ := by
  cases e <;> first | exact h.elim | skip
  all_goals
    obtain ⟨own0, hu, vs, hrs, own', hs, hR⟩ := h
    cases hu
    exact ⟨own, .nil _, vs, hrs, o, hS, hR⟩
theorem Sel.at {x : Nat × Obj} {i : Nat} (h : own[i]? = some x) : Sel [x] own := Sel.of [i] (by simp [selI, h]) (by simp [distinct])
/-- Some of the first n, and all behind them. -/
theorem Sel.keepV (n : Nat) (is : List Nat) {o : Own} (hs : selI (own.take n) is = some o) (hd : distinct is = true) : Sel (o ++ own.drop n) own := by
  intro w0 w hI
  have h1 : Inv w0 o w := (hI.weaken (List.take_sublist n own)).sel hs hd
  have h2 : Inv w0 (own.drop n) w := hI.weaken (List.drop_sublist n own)
  refine ⟨hI.below, fun p hp hl => ?_, ?_⟩
  · rcases List.mem_append.1 hp with hp | hp
    · exact h1.mem p hp hl
    · exact h2.mem p hp hl
  · rw [List.filter_append, List.map_append, List.nodup_append]
    refine ⟨h1.nodup, h2.nodup, fun a ha b hb e => ?_⟩
    obtain ⟨p, hp, rfl⟩ := List.mem_map.1 ha
    obtain ⟨q, hq, rfl⟩ := List.mem_map.1 hb
    obtain ⟨hp1, hp2⟩ := List.mem_filter.1 hp
    obtain ⟨hq1, hq2⟩ := List.mem_filter.1 hq
    obtain ⟨j, _, hj⟩ := selI_mem hs hp1
    obtain ⟨k, hk⟩ := List.getElem?_of_mem hq1
    have hjn : j < n := by
      have := (List.getElem?_eq_some_iff.1 hj).1
      simp at this
      omega
    have hj' : own[j]? = some p := by
      rw [List.getElem?_take, if_pos hjn] at hj
      exact hj
    have hk' : own[n + k]? = some q := by
      rw [List.getElem?_drop] at hk
      exact hk
    exact nodup_fst_ne hI.nodup hj' hk' hp2 hq2 (by omega) e
end
end Go.X

/- The calculus' rules: sets of numbers kept as maps from numbers to true. Nothing of the program stands here. -/
namespace Go.X
open Go Go.RowKit
/-- A map from numbers to bools that holds true at each of its keys, in the order in which they came. -/
def mkMap (ks : List (Int × Nat)) : List MapEntry := ks.map fun x => { key := .int .i64 x.1, val := .bool true, born := x.2 }
def mkeys (ks : List (Int × Nat)) : List Int := ks.map (·.1)
def mput (ks : List (Int × Nat)) (k : Int) (c : Nat) : List (Int × Nat) := if k ∈ mkeys ks then ks else ks ++ [(k, c)]
def mclk (ks : List (Int × Nat)) (k : Int) (c : Nat) : Nat := if k ∈ mkeys ks then c else c + 1
def mdel (ks : List (Int × Nat)) (k : Int) : List (Int × Nat) := ks.eraseP fun x => x.1 == k
theorem mput_keys {ks : List (Int × Nat)} {k x : Int} {c : Nat} : x ∈ mkeys (mput ks k c) ↔ x = k ∨ x ∈ mkeys ks := by
  unfold mput
  split
  · rename_i h
    exact ⟨.inr, fun hx => hx.elim (fun e => e ▸ h) id⟩
  · simp [mkeys, or_comm]
theorem mput_nodup {ks : List (Int × Nat)} {k : Int} {c : Nat} (h : (mkeys ks).Nodup) : (mkeys (mput ks k c)).Nodup := by
  unfold mput
  split
  · exact h
  · rename_i hn
    simp only [mkeys, List.map_append, List.map_cons, List.map_nil] at h hn ⊢
    rw [List.nodup_append]
    exact ⟨h, by simp, fun a ha b hb => by simp at hb; subst hb; intro e; subst e; exact hn ha⟩
theorem mdel_nodup {ks : List (Int × Nat)} {k : Int} (h : (mkeys ks).Nodup) : (mkeys (mdel ks k)).Nodup := by
  unfold mkeys mdel at *
  exact h.sublist ((List.eraseP_sublist).map _)
theorem mdel_keys {ks : List (Int × Nat)} {k x : Int} (h : (mkeys ks).Nodup) : x ∈ mkeys (mdel ks k) ↔ x ≠ k ∧ x ∈ mkeys ks := by
  induction ks with
  | nil => simp [mkeys, mdel]
  | cons y ks ih =>
    simp only [mkeys, List.map_cons, List.nodup_cons] at h
    have ih := ih h.2
    by_cases hy : y.1 = k
    · have e : mdel (y :: ks) k = ks := by simp [mdel, hy]
      rw [e]
      simp only [mkeys, List.map_cons, List.mem_cons]
      constructor
      · intro hx
        refine ⟨fun e => ?_, .inr hx⟩
        subst e
        rw [hy] at h
        exact h.1 hx
      · rintro ⟨h1, h2 | h2⟩
        · exact absurd (h2.trans hy) h1
        · exact h2
    · have e : mdel (y :: ks) k = y :: mdel ks k := by simp [mdel, hy]
      rw [e]
      simp only [mkeys, List.map_cons, List.mem_cons] at ih ⊢
      rw [ih]
      constructor
      · rintro (h1 | ⟨h1, h2⟩)
        · exact ⟨fun e => hy (h1.symm.trans e), .inl h1⟩
        · exact ⟨h1, .inr h2⟩
      · rintro ⟨h1, h2 | h2⟩
        · exact .inl h2
        · exact .inr ⟨h1, h2⟩
def mfind (ks : List (Int × Nat)) (k : Int) : Option Nat := ks.findIdx? fun x => x.1 == k
theorem mfind_none {ks : List (Int × Nat)} {k : Int} : mfind ks k = none ↔ k ∉ mkeys ks := by
  simp only [mfind, mkeys, List.findIdx?_eq_none_iff, List.mem_map, not_exists, not_and, beq_eq_false_iff_ne, ne_eq]
theorem findNow_mk (k : Int) : ∀ (ks : List (Int × Nat)) (i : Nat), Instr.findNow (.int .i64) (.int .i64 k) (mkMap ks) i = some ((mfind ks k).map fun j => (i + j, .bool true))
  | [], i => rfl
  | y :: ks, i => by
    have ih := findNow_mk k ks (i + 1)
    by_cases hy : y.1 = k
    · simp [mkMap, Instr.findNow, Instr.sameNow, mfind, List.findIdx?_cons, hy]
    · have hy' : ¬k = y.1 := fun e => hy e.symm
      simp only [mkMap, List.map_cons, Instr.findNow, Instr.sameNow, if_true]
      have e1 : (k == y.1) = false := by simpa using hy'
      rw [e1]
      simp only []
      have ih' : Instr.findNow (.int .i64) (.int .i64 k) (ks.map fun x => { key := .int .i64 x.1, val := .bool true, born := x.2 }) (i + 1) = some ((mfind ks k).map fun j => (i + 1 + j, .bool true)) := ih
      rw [ih']
      have e2 : (y.1 == k) = false := by simpa using hy
      simp only [mfind, List.findIdx?_cons, e2]
      cases ks.findIdx? fun x => x.1 == k <;> simp
      omega
/-- A slice against nil. -/
theorem run_eql_slice_nil' {P : Program} {w : World} {T : TypeId} {x y : Operand} (h : isSliceP P T = true) (a : Option Addr) (n c : Nat) :
    (do eqGuard .eql T x y (.slice a n c) (.slice none 0 0); binOp .eql T (.slice a n c) (.slice none 0 0) : Sem Value).run P w = .ok (.bool (decide (a = none))) w := by
  unfold isSliceP at h
  split at h
  · rename_i e hu
    have h1 : (Op.equal T (.slice a n c) (.slice none 0 0)).run P w = .ok a.isNone w := by
      show (Op.equalIn (9999 + 1) T _ _).run P w = _
      unfold Op.equalIn
      cases a <;> simp [run_underlying hu, Result.andThen]
    have e1 : decide (a = none) = a.isNone := by cases a <;> simp
    simp [eqGuard, binOp, h1, Result.andThen, e1]
  · cases h
def mapKB (P : Program) (t : TypeId) : Bool := match P.underlying t with
  | some (.map k e) => (match P.underlying k, P.underlying e with | some (.int .i64), some .bool => true | _, _ => false) && (match (P.info? e).bind (·.zero) with | some (.bool false) => true | _ => false)
  | _ => false
theorem mapKB_spec {P : Program} {t : TypeId} (h : mapKB P t = true) : ∃ k e, P.underlying t = some (.map k e) ∧ P.underlying k = some (.int .i64) ∧ P.underlying e = some .bool ∧ (P.info? e).bind (·.zero) = some (.bool false) := by
  unfold mapKB at h
  split at h
  · rename_i k e hu
    rw [Bool.and_eq_true] at h
    refine ⟨k, e, hu, ?_⟩
    obtain ⟨h1, h2⟩ := h
    split at h1
    · rename_i a b
      split at h2
      · rename_i c
        exact ⟨a, b, c⟩
      · cases h2
    · cases h1
  · cases h
section
variable {P : Program} {w : World}
theorem run_checkKey_i64 {k : TypeId} (hu : P.underlying k = some (.int .i64)) (e : Bool) (v : Value) : (Instr.checkKey e 10000 k v).run P w = .ok () w := by
  show (Instr.checkKey e (9999 + 1) k v).run P w = _
  unfold Instr.checkKey
  simp [run_underlying hu, Result.andThen]
theorem run_findKey_mk {k : TypeId} (hu : P.underlying k = some (.int .i64)) (x : Int) (ks : List (Int × Nat)) : (Instr.findKey k (.int .i64 x) (mkMap ks)).run P w = .ok ((mfind ks x).map fun j => (j, .bool true)) w := by
  simp [Instr.findKey, run_underlying hu, Result.andThen, findNow_mk]
theorem run_zero_bool {e : TypeId} (hz : (P.info? e).bind (·.zero) = some (.bool false)) : (zeroValue e).run P w = .ok (.bool false) w := by
  cases hi : P.info? e with
  | none => simp [hi] at hz
  | some inf =>
    simp only [hi, Option.bind_some] at hz
    simp [zeroValue, typeInfo, hi, hz, Result.andThen]
theorem run_lookup_mk {t : TypeId} (ht : mapKB P t = true) {b c : Nat} {ks : List (Int × Nat)} (hb : w.heap[b]? = some (.map ⟨mkMap ks⟩ c)) (x : Int) : (Instr.lookup t (.map (some b)) (.int .i64 x) false).run P w = .ok (.bool (decide (x ∈ mkeys ks))) w := by
  obtain ⟨k, e, hu, hk, he, hz⟩ := mapKB_spec ht
  simp only [Instr.lookup]
  simp [run_underlying hu, MapKept.run_getObj_map hb, Result.andThen, run_checkKey_i64 hk, run_findKey_mk hk]
  cases hf : mfind ks x with
  | none =>
    have := mfind_none.1 hf
    simp [run_zero_bool hz, this]
  | some j =>
    have : x ∈ mkeys ks := Decidable.byContradiction fun hn => by rw [mfind_none.2 hn] at hf; cases hf
    simp [this]
theorem mkMap_get {ks : List (Int × Nat)} {x : Int} {j : Nat} (h : mfind ks x = some j) : (mkMap ks)[j]? = some { key := .int .i64 x, val := .bool true, born := ((ks[j]?).map (·.2)).getD 0 } := by
  unfold mfind at h
  rw [List.findIdx?_eq_some_iff_getElem] at h
  obtain ⟨hlt, hx, _⟩ := h
  have hx' : ks[j].1 = x := by simpa using hx
  simp [mkMap, hlt, hx']
theorem modify_same {l : List MapEntry} : ∀ {j : Nat} {e : MapEntry} (f : MapEntry → MapEntry), l[j]? = some e → f e = e → l.modify j f = l := by
  induction l with
  | nil => intro j e f h; simp at h
  | cons x l ih =>
    intro j e f h hf
    cases j with
    | zero => simp at h; subst h; simp [hf]
    | succ j => simp [ih f (by simpa using h) hf]
theorem mkMap_snoc (ks : List (Int × Nat)) (x : Int) (c : Nat) : mkMap (ks ++ [(x, c)]) = mkMap ks ++ [{ key := .int .i64 x, val := .bool true, born := c }] := by simp [mkMap]
theorem run_put_mk {t : TypeId} (ht : mapKB P t = true) {b c : Nat} {ks : List (Int × Nat)} (hb : w.heap[b]? = some (.map ⟨mkMap ks⟩ c)) (x : Int) :
    (Instr.mapUpdate t (.map (some b)) (.int .i64 x) (.bool true)).run P w = .ok () { w with heap := w.heap.setIfInBounds b (.map ⟨mkMap (mput ks x c)⟩ (mclk ks x c)) } := by
  obtain ⟨k, e, hu, hk, he, hz⟩ := mapKB_spec ht
  cases hf : mfind ks x with
  | none =>
    have hn := mfind_none.1 hf
    simp [Instr.mapUpdate, run_underlying hu, MapKept.run_getObj_map hb, Result.andThen, run_checkKey_i64 hk, run_findKey_mk hk, hf, MapKept.run_setObj_map _ hb, mput, mclk, hn, mkMap_snoc]
  | some j =>
    have hy : x ∈ mkeys ks := Decidable.byContradiction fun hn => by rw [mfind_none.2 hn] at hf; cases hf
    have hg := mkMap_get hf
    have hstay : (Instr.keyThatStays (.int .i64 x) (.int .i64 x)).run P w = .ok (.int .i64 x) w := by
      simp [Instr.keyThatStays, Instr.sameBits]
    have hm : (mkMap ks).modify j (fun e => { e with key := .int .i64 x, val := .bool true }) = mkMap ks := modify_same _ hg rfl
    simp [Instr.mapUpdate, run_underlying hu, MapKept.run_getObj_map hb, Result.andThen, run_checkKey_i64 hk, run_findKey_mk hk, hf, MapKept.run_setObj_map _ hb, mput, mclk, hy, hg, hstay]
    rw [hm]
theorem map_eraseIdx' {α β : Type} (f : α → β) : ∀ (l : List α) (j : Nat), (l.map f).eraseIdx j = (l.eraseIdx j).map f
  | [], _ => rfl
  | _ :: _, 0 => rfl
  | _ :: l, j + 1 => by simp [map_eraseIdx' f l j]
theorem mdel_at {ks : List (Int × Nat)} {x : Int} {j : Nat} (h : mfind ks x = some j) : (mkMap ks).eraseIdx j = mkMap (mdel ks x) := by
  have h' := h
  unfold mfind at h'
  rw [mdel, List.eraseP_eq_eraseIdx, h']
  simp only [mkMap]
  rw [map_eraseIdx']
theorem run_del_mk {t : TypeId} (ht : mapKB P t = true) {ty : TypeId} {b c : Nat} {ks : List (Int × Nat)} (hb : w.heap[b]? = some (.map ⟨mkMap ks⟩ c)) (x : Int) {ats : Array TypeId} (hat : ats[0]? = some t) :
    (Builtin.delete_ ats ty #[.map (some b), .int .i64 x]).run P w = .ok (.tuple #[]) { w with heap := w.heap.setIfInBounds b (.map ⟨mkMap (mdel ks x)⟩ c) } := by
  obtain ⟨k, e, hu, hk, he, hz⟩ := mapKB_spec ht
  cases hf : mfind ks x with
  | none =>
    have hn : mdel ks x = ks := by
      have := mfind_none.1 hf
      rw [mdel, List.eraseP_of_forall_not]
      intro a ha hb
      simp at hb
      exact this (by simp only [mkeys, List.mem_map]; exact ⟨a, ha, hb⟩)
    simp [Builtin.delete_, hat, run_underlying hu, MapKept.run_getObj_map hb, Result.andThen, run_checkKey_i64 hk, run_findKey_mk hk, hf, MapKept.run_setObj_map _ hb, hn]
  | some j =>
    have hd := mdel_at hf
    simp [Builtin.delete_, hat, run_underlying hu, MapKept.run_getObj_map hb, Result.andThen, run_checkKey_i64 hk, run_findKey_mk hk, hf, MapKept.run_setObj_map _ hb]
    rw [hd]
end
section
variable {C : Cx} {Q : Post} {env : Env} {own : Own} {D : List Deferred} {ops : Array Oper} {rest : List Oper}
variable {d : Nat} {ty : TypeId} {pos : String} {aft : Array Edge} {g : Option (Nat × Bool)} {x y z : Operand} {T : TypeId}
theorem SXL.makeMap (h : ∀ b, SXL C ops rest Q ⟨(d, .map (some b)) :: env, own ++ [(b, .map ⟨mkMap []⟩ 0)], D⟩)
    (hd : Nat.blt d C.n = true := by rfl) (hw : Wanted ops g env = some true := by rfl) (hdr : C.dr = false := by rfl) :
    SXL C ops ({ dst := some d, op := .makeMap T none, type := ty, pos, after := aft, guard := g } :: rest) Q ⟨env, own, D⟩ :=
  SXL.new (f := fun b => .map (some b)) rfl hd hw (fun _ e => by cases e) (fun a w ha hI => by
    simp [execOp, Instr.makeMap, Result.andThen, mkMap]) h hdr
theorem SXL.mapGet (i : Nat) {b c : Nat} {ks : List (Int × Nat)} {k : Int} (hT : mapKB C.P T = true) (hx : ev env x = some (.map (some b))) (hy : ev env y = some (.int .i64 k)) (hi : own[i]? = some (b, .map ⟨mkMap ks⟩ c))
    (h : SXL C ops rest Q ⟨(d, .bool (decide (k ∈ mkeys ks))) :: env, own, D⟩) (hd : Nat.blt d C.n = true := by rfl) (hw : Wanted ops g env = some true := by rfl) :
    SXL C ops ({ dst := some d, op := .lookup T x y false, type := ty, pos, after := aft, guard := g } :: rest) Q ⟨env, own, D⟩ :=
  SXL.val rfl hd hw (fun _ e => by cases e) (fun a w ha hI => by
    simp only [execOp, ha.eval hx, ha.eval hy]
    exact run_val (run_lookup_mk hT (hI.get hi rfl).2 k)) h
theorem Inv.setMap {w0 w : World} {own : Own} (h : Inv w0 own w) {i b c c' : Nat} {es es' : Array MapEntry} (hi : own[i]? = some (b, .map es c)) :
    Inv w0 (own.set i (b, .map es' c')) { w with heap := w.heap.setIfInBounds b (.map es' c') } := by
  have hb := (h.get hi rfl).2
  have hlt := (Array.getElem?_eq_some_iff.1 hb).1
  exact h.set hi rfl (fun k hk => by simp [hk.symm]) (by simp [hlt]) (by simp) rfl rfl rfl
theorem SXL.mapPut (i : Nat) {b c : Nat} {ks : List (Int × Nat)} {k : Int} (hT : mapKB C.P T = true) (hx : ev env x = some (.map (some b))) (hy : ev env y = some (.int .i64 k)) (hz : ev env z = some (.bool true)) (hi : own[i]? = some (b, .map ⟨mkMap ks⟩ c))
    (h : SXL C ops rest Q ⟨env, own.set i (b, .map ⟨mkMap (mput ks k c)⟩ (mclk ks k c)), D⟩) (hw : Wanted ops g env = some true := by rfl) (hdr : C.dr = false := by rfl) :
    SXL C ops ({ dst := none, op := .mapUpdate T x y z, type := ty, pos, after := aft, guard := g } :: rest) Q ⟨env, own, D⟩ :=
  SXL.op hw (fun _ e => by cases e) (hdr := hdr) fun a w hc => by
    have hr := run_put_mk hT (hc.2.2.get hi rfl).2 k
    refine ⟨undef, _, .inr ⟨?_, rfl⟩, ⟨env, own.set i (b, .map ⟨mkMap (mput ks k c)⟩ (mclk ks k c)), D⟩, fun a' ha' hD' => ⟨ha', hD', hc.2.2.setMap hi⟩, h⟩
    simp only [execOp, hc.1.eval hx, hc.1.eval hy, hc.1.eval hz]
    simp [hr, Result.andThen]
theorem SXL.mapDel (i : Nat) {b c : Nat} {ks : List (Int × Nat)} {k : Int} {ats : Array TypeId} (hT : mapKB C.P T = true) (hat : ats[0]? = some T) (hx : ev env x = some (.map (some b))) (hy : ev env y = some (.int .i64 k)) (hi : own[i]? = some (b, .map ⟨mkMap ks⟩ c))
    (h : SXL C ops rest Q ⟨env, own.set i (b, .map ⟨mkMap (mdel ks k)⟩ c), D⟩) (hw : Wanted ops g env = some true := by rfl) (hdr : C.dr = false := by rfl) :
    SXL C ops ({ dst := none, op := .call { callee := .builtin .delete, args := #[x, y], argTypes := ats }, type := ty, pos, after := aft, guard := g } :: rest) Q ⟨env, own, D⟩ :=
  SXL.op hw (fun _ e => by cases e) (hdr := hdr) fun a w hc => by
    have hr := run_del_mk hT (ty := ty) (b := b) (hc.2.2.get hi rfl).2 k hat
    refine ⟨.tuple #[], _, .inl ?_, ⟨env, own.set i (b, .map ⟨mkMap (mdel ks k)⟩ c), D⟩, fun a' ha' hD' => ⟨ha', hD', hc.2.2.setMap hi⟩, h⟩
    rw [run_builtin]
    simp only [List.map_toArray, List.map_cons, List.map_nil, hc.1.eval hx, hc.1.eval hy]
    show (do pure (Next.value (← Builtin.delete_ ats ty #[.map (some b), .int .i64 k])) : Sem Next).run C.P w = _
    simp [hr, Result.andThen]
theorem SXL.eqlS {T' : TypeId} {ao : Option Addr} {n c : Nat} (hT : isSliceP C.P T = true) (hx : ev env x = some (.slice ao n c)) (hy : ev env y = some (.slice none 0 0))
    (h : SXL C ops rest Q ⟨(d, .bool (decide (ao = none))) :: env, own, D⟩) (hd : Nat.blt d C.n = true := by rfl) (hw : Wanted ops g env = some true := by rfl) :
    SXL C ops ({ dst := some d, op := .binOp .eql T x y T', type := ty, pos, after := aft, guard := g } :: rest) Q ⟨env, own, D⟩ :=
  SXL.bin hx hy (r := .bool (decide (ao = none))) (fun _w => run_eql_slice_nil' hT ao n c) hd hw h
end
end Go.X

/- Springs without some readings, in memory. -/
namespace Go.S
open Go Go.X
def rdC (l : List Rd) : List Value := (l.map Rd.cells).flatten
/-- A list of numbers, handed back. -/
structure IsI (l : List Int) (v : Value) (own : X.Own) : Prop where
  ex : ∃ r : Sl, r.Ok l.length 1 (ints l) ∧ v = r.val l.length ∧ own = [r.ent 3 (ints l)]
/-- A book's lines, handed back. -/
structure IsB (s : Sp) (v : Value) (own : X.Own) : Prop where
  ex : ∃ r : Sl, r.Ok s.book.length 5 (bookC s) ∧ v = r.val s.book.length ∧ own = [r.ent 61 (bookC s)]
theorem onesSrc {w : World} {l : List Int} {ao : Option Addr} (h : RowsAt w ao 1 (ones l)) (own : X.Own) : Src w own ao l.length (ints l) := by
  have := h.src (by omega) (by intro q hq; obtain ⟨x, _, rfl⟩ := List.mem_map.1 hq; rfl) own
  rwa [ones_flatten, show (ones l).length = l.length from by simp [ones]] at this
theorem linesSrc {w : World} {s : Sp} {ao : Option Addr} (h : RowsAt w ao 5 (s.book.map Ln.cells)) (own : X.Own) : Src w own ao s.book.length (bookC s) := by
  have := h.src (by omega) (by intro q hq; obtain ⟨x, _, rfl⟩ := List.mem_map.1 hq; rfl) own
  rwa [List.length_map] at this
/-- What is to be struck still. -/
theorem gone_iff {s : Sp} {ns : List Int} {ks : List (Int × Nat)} {k : Nat} (hd : (numsL s).Nodup) (hk : k < s.reads.length) (h : ∀ x, x ∈ mkeys ks ↔ x ∈ ns ∧ ∀ i, i < k → (s.reads.getD i default).num ≠ x) :
    (s.reads.getD k default).num ∈ mkeys ks ↔ (s.reads.getD k default).num ∈ ns := by
  rw [h]
  refine ⟨fun h => h.1, fun h1 => ⟨h1, fun i hi e => ?_⟩⟩
  have := nodup_at hd (show i < s.reads.length by omega) hk e
  omega
theorem gone_del {s : Sp} {ns : List Int} {ks : List (Int × Nat)} {k : Nat} (hn : (mkeys ks).Nodup) (_hk : k < s.reads.length) (h : ∀ x, x ∈ mkeys ks ↔ x ∈ ns ∧ ∀ i, i < k → (s.reads.getD i default).num ≠ x) :
    ∀ x, x ∈ mkeys (mdel ks (s.reads.getD k default).num) ↔ x ∈ ns ∧ ∀ i, i < k + 1 → (s.reads.getD i default).num ≠ x := by
  intro x
  rw [mdel_keys hn, h]
  constructor
  · rintro ⟨h1, h2, h3⟩
    refine ⟨h2, fun i hi => ?_⟩
    by_cases e : i = k
    · subst e; exact fun e => h1 e.symm
    · exact h3 i (by omega)
  · rintro ⟨h2, h3⟩
    exact ⟨fun e => h3 k (by omega) e.symm, h2, fun i hi => h3 i (by omega)⟩
theorem gone_stay {s : Sp} {ns : List Int} {ks : List (Int × Nat)} {k : Nat} (_hk : k < s.reads.length) (hno : (s.reads.getD k default).num ∉ ns) (h : ∀ x, x ∈ mkeys ks ↔ x ∈ ns ∧ ∀ i, i < k → (s.reads.getD i default).num ≠ x) :
    ∀ x, x ∈ mkeys ks ↔ x ∈ ns ∧ ∀ i, i < k + 1 → (s.reads.getD i default).num ≠ x := by
  intro x
  rw [h]
  constructor
  · rintro ⟨h2, h3⟩
    refine ⟨h2, fun i hi => ?_⟩
    by_cases e : i = k
    · subst e; exact fun e => hno (e ▸ h2)
    · exact h3 i (by omega)
  · rintro ⟨h2, h3⟩
    exact ⟨h2, fun i hi => h3 i (by omega)⟩
end Go.S

/- One truth of each rain, in memory. -/
namespace Go.S
open Go Go.X
/-- A rain, a list, and what it comes to. -/
abbrev Trt := Int × Sl × List Int
def rowT (x : Trt) : List Value := [.int .i64 x.1, x.2.1.val x.2.2.length]
def entT (x : Trt) : Nat × Obj := x.2.1.ent 3 (ints x.2.2)
def okT (x : Trt) : Prop := x.2.1.Ok x.2.2.length 1 (ints x.2.2)
instance : Inhabited Trt := ⟨(0, Sl.nil, [])⟩
structure EndsR (s : Sp) (off : Nat) (v : Value) (own : X.Own) : Prop where
  ex : ∃ (q : Sl) (tr : List Trt), tr.map (·.1) = toldL s 0 ∧ tr.map (·.2.2) = (toldA s 0).map (fun X => endL X off s.weeks.toNat) ∧ (∀ x ∈ tr, okT x) ∧ q.Ok tr.length 2 (tr.map rowT).flatten ∧
    v = .tuple ⟨[q.val tr.length, .int .i64 (toldE s 0)]⟩ ∧ own = q.ent 151 (tr.map rowT).flatten :: tr.map entT
theorem EndsR.errs {s : Sp} {off : Nat} {e : Int} (h : toldE s 0 = e) (he : e ≠ 0) : EndsR s off (.tuple ⟨[.slice none 0 0, .int .i64 e]⟩) [Sl.nil.ent 151 []] := by
  have hl := toldL_bad h he
  exact ⟨Sl.nil, [], by simp [hl], by simp [toldA, hl, lvsL], (fun x hx => by cases hx), Sl.Ok.none _, by rw [h]; rfl, rfl⟩
theorem endL_succ {X : List Int} (hX : X.length = 20) {off j : Nat} (h : off + j < 20) : endL X off (j + 1) = endL X off j ++ [G X (off + j)] := by
  unfold endL
  have hlt : j < (X.drop off).length := by rw [List.length_drop]; omega
  rw [List.take_add_one, List.getElem?_eq_getElem hlt]
  simp [G, show off + j < X.length by omega]
theorem srcLast {w0 : World} {own : X.Own} {b m : Nat} {l : List Value} {E : TypeId} {fz : Nat × Nat} : Src w0 (own ++ [(b, .cells ⟨l⟩ E fz)]) (some ⟨b, 0, none⟩) m l :=
  .inr ⟨b, 0, rfl, Mem.own (i := own.length) (k := l.length) (l := l) (E := E) (fz := fz) (by simp) (takeAt_all l)⟩
theorem rowT_len (tr : List Trt) : ∀ q ∈ tr.map rowT, q.length = 2 := by
  intro q hq
  obtain ⟨x, _, rfl⟩ := List.mem_map.1 hq
  rfl
theorem tr_get {tr : List Trt} {i : Nat} (h : i < tr.length) : tr.getD i default ∈ tr := by
  rw [List.getD_eq_getElem?_getD, List.getElem?_eq_getElem h]
  exact List.getElem_mem h
theorem Ok.rows2 {q : Sl} {n : Nat} {tr : List Trt} (h : q.Ok n 2 (tr.map rowT).flatten) : n = tr.length := by
  have h1 := h.len
  rw [length_flatten (rowT_len tr), List.length_map] at h1
  omega
/-- Truths in memory: those that are told. -/
structure TrAt (w : World) (ao : Option Addr) (tr : List Trt) : Prop where
  rows : RowsAt w ao 2 (tr.map rowT)
  each : ∀ x ∈ tr, RowsAt w x.2.1.addr 1 (ones x.2.2)
theorem TrAt.inv {w0 w : World} {own : X.Own} {ao : Option Addr} {tr : List Trt} (h : TrAt w0 ao tr) (hI : Inv w0 own w) : TrAt w ao tr := ⟨h.rows.inv hI, fun x hx => (h.each x hx).inv hI⟩
theorem TrAt.row {w : World} {ao : Option Addr} {tr : List Trt} (h : TrAt w ao tr) {i : Nat} (hi : i < tr.length) : ∃ b o, ao = some ⟨b, o, none⟩ ∧ ∀ own, Mem w own b (o + i * 2) (rowT (tr.getD i default)) :=
  h.rows.get (by simp [hi])
def SmT (tr : List Trt) : Prop := ∀ x ∈ tr, x.2.2.length ≤ 10 ∧ ∀ i, i < x.2.2.length → -1000 ≤ x.2.2.getD i 0 ∧ x.2.2.getD i 0 ≤ 1000
theorem tr_list {s : Sp} {off : Nat} {tr : List Trt} (h : tr.map (·.2.2) = (toldA s 0).map (fun X => endL X off s.weeks.toNat)) {i : Nat} (hi : i < tr.length) : (tr.getD i default).2.2 = endsL s off i := by
  have h1 := congrArg (·[i]?) h
  have hl := congrArg List.length h
  simp only [List.length_map] at hl
  simp only [List.getElem?_map, List.getElem?_eq_getElem hi, List.getElem?_eq_getElem (show i < (toldA s 0).length by omega), Option.map_some, Option.some.injEq] at h1
  simp only [List.getD_eq_getElem?_getD, List.getElem?_eq_getElem hi, Option.getD_some, endsL, List.getElem?_eq_getElem (show i < (toldA s 0).length by omega)]
  exact h1
theorem tr_rain {s : Sp} {tr : List Trt} (h : tr.map (·.1) = toldL s 0) {i : Nat} (hi : i < tr.length) : (tr.getD i default).1 = (toldL s 0).getD i 0 := by
  rw [← h]
  simp [hi]
theorem tr_small {s : Sp} (he : toldE s 0 = 0) {off : Nat} (ho : off ≤ 10) {tr : List Trt} (h : tr.map (·.2.2) = (toldA s 0).map (fun X => endL X off s.weeks.toNat)) : SmT tr := by
  have hv := (toldE_valid he).1.1
  unfold HeadP at hv
  intro x hx
  have : x.2.2 ∈ (toldA s 0).map (fun X => endL X off s.weeks.toNat) := by rw [← h]; exact List.mem_map.2 ⟨x, hx, rfl⟩
  obtain ⟨X, hX, e⟩ := List.mem_map.1 this
  have hb := toldA_bd he X hX
  have hl := endL_len hb.len ho (n := s.weeks.toNat) (by omega)
  rw [← e]
  refine ⟨by omega, fun i hi => ?_⟩
  rw [endL_at (by omega)]
  exact hb.2 _ (by omega)
theorem tr_ent {tr : List Trt} {i : Nat} (h : i < tr.length) : (tr.map entT)[i]? = some (entT (tr.getD i default)) := by simp [h]
theorem cons2_get {α : Type} (a b : α) (l : List α) (i : Nat) : (a :: b :: l)[2 + i]? = l[i]? := by rw [Nat.add_comm]; rfl
theorem cons3_get {α : Type} (a b c : α) (l : List α) (i : Nat) : (a :: b :: c :: l)[3 + i]? = l[i]? := by rw [Nat.add_comm]; rfl
end Go.S

/- The walks of functions. -/
namespace Go.Proofs.YtknflipongbngaaDoor
open Go.X Go.S Go.RowKit
theorem sum_any (l : List Int) (ao : Option Addr) (c : Nat) (hl : l.length ≤ 10 ∧ ∀ i, i < l.length → -1000 ≤ l.getD i 0 ∧ l.getD i 0 ≤ 1000) (w : World) (h : RowsAt w ao 1 (ones l)) :
    CallsR Tryd.prog 101 [.slice ao l.length c] w (fun v _ => v = .int .i64 (sumL l)) := by
  refine CallsR.of_SX (n := 17) (rs := [.tmp 2]) Tryd.func101 rfl rfl rfl rfl ?_
  show SX _ _ _ ⟨[(0, .slice ao l.length c)], [], []⟩
  refine SX.seq ?_
  refine SX.region ?_
  refine SXL.assign rfl ?_
  refine SXL.nil ?_
  refine thenQ.normal ?_
  refine SX.seq ?_
  refine SX.region ?_
  refine SXL.assign rfl ?_
  refine SXL.nil ?_
  refine thenQ.normal ?_
  refine SX.seq ?_
  refine SX.seq ?_
  refine SX.region ?_
  refine SXL.move rfl ?_
  refine SXL.len is_35 rfl ?_
  refine SXL.move rfl ?_
  refine SXL.nil ?_
  refine thenQ.normal ?_
  refine SX.block ?_
  refine SX.loopG (α := Nat) [2, 6, 7] rfl (fun k => [(8, .int .i64 ((k : Int))), (3, .int .i64 ((sumTo l k)))]) (fun k => []) (fun k => k ≤ l.length) (fun k => l.length - k) 0 (Nat.zero_le _) ⟨rfl, rfl, trivial⟩ rfl ?_
  rintro k hk0
  refine SX.seq ?_
  refine SX.region ?_
  refine SXL.lss rfl rfl ?_
  refine SXL.nil ?_
  refine thenQ.normal ?_
  refine SX.seq ?_
  refine SX.condP rfl (fun c1 => ?_) (fun c1 => ?_)
  · refine SX.skip ?_
    refine thenQ.normal ?_
    refine SX.seq ?_
    refine SX.block ?_
    refine SX.seq ?_
    have hk : k < l.length := by omega
    obtain ⟨b, o, ha, hm⟩ := oneI h hk
    have hx := hl.2 k hk
    have hs := sumTo_bd hl.2 k (by omega)
    refine SX.region ?_
    refine SXL.indexR el_35 rfl rfl ha (by omega) ?_
    refine SXL.load1 sh_3 rfl (hm _) ?_
    refine SXL.assign rfl ?_
    refine SXL.nil ?_
    refine thenQ.normal ?_
    refine SX.region ?_
    refine SXL.move rfl ?_
    refine SXL.move rfl ?_
    refine SXL.add rfl rfl (by omega) ?_
    refine SXL.assign rfl ?_
    refine SXL.nil ?_
    refine blockQ.normal ?_
    refine thenQ.normal ?_
    refine SX.region ?_
    refine SXL.add rfl rfl (by omega) ?_
    refine SXL.move rfl ?_
    refine SXL.nil ?_
    refine thenQ.normal ?_
    refine ⟨k + 1, Meets.mk _ ⟨rfl, rfl, trivial⟩ ⟨rfl, rfl, rfl, trivial⟩ rfl, (by omega), (by omega)⟩
  · refine SX.exit ?_
    refine thenQ.exit ?_
    refine thenQ.exit ?_
    refine blockQ.exit ?_
    refine thenQ.normal ?_
    refine SX.seq ?_
    obtain rfl : k = l.length := by omega
    refine SX.region ?_
    refine SXL.move rfl ?_
    refine SXL.assign rfl ?_
    refine SXL.nil ?_
    refine thenQ.normal ?_
    refine SX.ret ?_
    refine retQ.one (ResAt.tmp rfl) ?_
    rfl
theorem endLo (a b : Int) (w : World) :
    CallsR Tryd.prog 98 [.agg ⟨[.int .i64 a, .int .i64 b]⟩] w (fun v _ => v = .int .i64 a) := by
  refine CallsR.of_SX (n := 5) (rs := [.tmp 2]) Tryd.func98 rfl rfl rfl rfl ?_
  show SX _ _ _ ⟨[(0, .agg ⟨[.int .i64 a, .int .i64 b]⟩)], [], []⟩
  refine SX.seq ?_
  refine SX.region ?_
  refine SXL.box rfl rfl ?_; intro b0
  refine SXL.assign rfl ?_
  refine SXL.nil ?_
  refine thenQ.normal ?_
  refine SX.seq ?_
  refine SX.region ?_
  refine SXL.fieldAddr fp_23_0 rfl ?_
  refine SXL.load1o 0 sh_3 rfl rfl rfl ?_
  refine SXL.assign rfl ?_
  refine SXL.nil ?_
  refine thenQ.normal ?_
  refine SX.ret ?_
  refine retQ.one (ResAt.tmp rfl) ?_
  rfl
theorem endHi (a b : Int) (w : World) :
    CallsR Tryd.prog 102 [.agg ⟨[.int .i64 a, .int .i64 b]⟩] w (fun v _ => v = .int .i64 b) := by
  refine CallsR.of_SX (n := 5) (rs := [.tmp 2]) Tryd.func102 rfl rfl rfl rfl ?_
  show SX _ _ _ ⟨[(0, .agg ⟨[.int .i64 a, .int .i64 b]⟩)], [], []⟩
  refine SX.seq ?_
  refine SX.region ?_
  refine SXL.box rfl rfl ?_; intro b0
  refine SXL.assign rfl ?_
  refine SXL.nil ?_
  refine thenQ.normal ?_
  refine SX.seq ?_
  refine SX.region ?_
  refine SXL.fieldAddr fp_23_1 rfl ?_
  refine SXL.load1o 0 sh_3 rfl rfl rfl ?_
  refine SXL.assign rfl ?_
  refine SXL.nil ?_
  refine thenQ.normal ?_
  refine SX.ret ?_
  refine retQ.one (ResAt.tmp rfl) ?_
  rfl
set_option maxHeartbeats 8000000 in
set_option maxRecDepth 100000 in
theorem ends_any (s : Sp) (bo ro : Option Addr) (bc rc : Nat) (F off : Nat) (hF : fnOk Tryd.prog F = true) (ho : off ≤ 10) (hb : s.book.length ≤ 1000000) (hr : s.reads.length ≤ 1000000) (w : World) (hg : Gl w) (hs : SpAt w s bo ro) (hc : ∀ (M : List Int) (k : Nat) (w' : World), CallsR Tryd.prog F ([] ++ [.agg ⟨[.int .i64 ((Lo (ilv M) k)), .int .i64 ((Hi (ilv M) k))]⟩] ++ []) w' (fun v _ => k < 10 → v = .int .i64 (G M (off + k)))) :
    CallsR Tryd.prog 97 [.agg ⟨[.int .i64 s.weeks, .int .i64 s.most, .int .i64 s.fall, .int .i64 s.a0, .int .i64 s.a1, .int .i64 s.w0, .int .i64 s.w1, (.slice bo s.book.length bc), (.slice ro s.reads.length rc)]⟩, .func (.func F) ⟨[]⟩ ⟨[]⟩] w (EndsR s off) := by
  refine CallsR.of_SX (n := 53) (rs := [.tmp 4, .tmp 5]) Tryd.func97 rfl rfl rfl rfl ?_
  show SX _ _ _ ⟨[(0, .agg ⟨[.int .i64 s.weeks, .int .i64 s.most, .int .i64 s.fall, .int .i64 s.a0, .int .i64 s.a1, .int .i64 s.w0, .int .i64 s.w1, (.slice bo s.book.length bc), (.slice ro s.reads.length rc)]⟩), (1, .func (.func F) ⟨[]⟩ ⟨[]⟩)], [], []⟩
  refine SX.seq ?_
  refine SX.region ?_
  refine SXL.box rfl rfl ?_; intro b0
  refine SXL.box rfl rfl ?_; intro b1
  refine SXL.assign rfl ?_
  refine SXL.assign rfl ?_
  refine SXL.nil ?_
  refine thenQ.normal ?_
  refine SX.seq ?_
  refine SX.region ?_
  refine SXL.loadNo 0 sh_27 rfl rfl rfl ?_
  refine SXL.callP (AskR s bo ro bc rc (True) 0) fn_75 rfl (fun w hI => asked_any s bo ro bc rc (True) 0 hb hr w (hg.inv hI) (hs.inv hI)) ?_; rintro _ ⟨W, O, hW1, hW2, hO, rfl, hok⟩
  refine SXL.move rfl ?_
  refine SXL.extract rfl rfl ?_
  refine SXL.extract rfl rfl ?_
  refine SXL.extract rfl rfl ?_
  refine SXL.alloc zp_117 ?_; intro b2
  refine SXL.alloc zp_114 ?_; intro b3
  refine SXL.store 2 sz_117 rfl rfl rfl rfl hW1 (putAt_all _ _ (by simp [hW1])) ?_ hW2
  refine SXL.store 3 sz_114 rfl rfl rfl rfl (by simp [hO]) (putAt_all _ _ (by simp [hO])) ?_ (ints_isOne _)
  refine SXL.assign rfl ?_
  refine SXL.nil ?_
  refine thenQ.normal ?_
  refine SX.seq ?_
  refine SX.seq ?_
  refine SX.region ?_
  refine SXL.move rfl ?_
  refine SXL.neqI rfl rfl ?_
  refine SXL.nil ?_
  refine thenQ.normal ?_
  refine SX.condP rfl (fun c22 => ?_) (fun c22 => ?_)
  · refine SX.seq ?_
    refine SX.region ?_
    refine SXL.move rfl ?_
    refine SXL.assign rfl ?_
    refine SXL.assign rfl ?_
    refine SXL.nil ?_
    refine thenQ.normal ?_
    refine SX.ret ?_
    refine thenQ.ret ?_
    refine retQ.dead [Sl.nil.ent 151 []] rfl ?_
    refine retQ.two (ResAt.tmp rfl) (ResAt.tmp rfl) ?_
    exact EndsR.errs (askT s).symm c22
  · refine SX.skip ?_
    refine thenQ.normal ?_
    refine SX.seq ?_
    have hcc := Decidable.not_not.1 c22
    have hTo : toldE s 0 = 0 := (askT s).symm.trans hcc
    obtain ⟨hv, hwk, ht⟩ := toldE_valid hTo
    obtain ⟨rfl, rfl⟩ := hok hv trivial ht
    have hH := hv.1
    unfold HeadP at hH
    refine SX.region ?_
    refine SXL.alloc zp_146 ?_; intro b4
    refine SXL.nil ?_
    refine thenQ.normal ?_
    refine SX.seq ?_
    refine SX.seq ?_
    refine SX.pad (Sl.nil.ent 151 []) rfl ?_
    refine SX.region ?_
    refine SXL.loadNo 2 sh_117 rfl rfl (takeAt_full (watC_len (by simp [flL]))) ?_
    refine SXL.callF (ItR s bo ro bc rc (flL s)) fn_76 rfl (fun w hI => it_any s bo ro bc rc (flL s) (by simp [flL]) w) ?_; rintro _ _ ⟨bi, rfl, rfl⟩
    refine SXL.nil ?_
    refine thenQ.normal ?_
    refine SX.block ?_
    refine SX.rangeFunc (f := 117) (nf := 31) (rs := []) rfl fn_117 Tryd.func117 rfl rfl rfl rfl ?_
    intro fn T r l ob hT hob
    refine SX.scope ?_
    refine SX.seq ?_
    refine SX.label ?_
    refine thenQ.normal ?_
    refine SX.seq ?_
    refine SX.region ?_
    refine SXL.fieldAddr fp_117_0 rfl ?_
    refine SXL.fieldAddr fp_27_4 rfl ?_
    refine SXL.fieldAddr fp_23_0 rfl ?_
    refine SXL.load1o 6 sh_3 rfl rfl rfl ?_
    refine SXL.assign rfl ?_
    refine SXL.nil ?_
    refine thenQ.normal ?_
    refine SX.block ?_
    refine SX.loopW (α := Nat × Sl × Nat × List Trt × List Value) [0, 1] rfl (fun ⟨k, q, n1, trX, c1⟩ => [(3, .int .i64 (s.w0 + (k : Int)))]) (fun ⟨k, q, n1, trX, c1⟩ => [(b0, .cells ⟨sp9 s bo ro bc rc⟩ 27 (0, 0)), (b1, .cells ⟨[.func (.func F) ⟨[]⟩ ⟨[]⟩]⟩ 149 (0, 0)), (b2, .cells ⟨watC s bo ro bc rc (flL s)⟩ 117 (0, 0)), (b3, .cells ⟨ints (outA s)⟩ 114 (0, 0)), (b4, .cells ⟨[q.val n1]⟩ 146 (0, 0)), q.ent 151 c1, (bi, .cells ⟨watC s bo ro bc rc (flL s)⟩ 117 (0, 0)), (r, .deferred (some [])), (l, ob .ready)]) (fun ⟨k, q, n1, trX, c1⟩ => trX.map entT) (fun ⟨k, q, n1, trX, c1⟩ => k ≤ rnN s ∧ trX.map (·.1) = (rnsTo s (baseL s) k) ∧ trX.map (·.2.2) = (rnsTo s (baseL s) k).map (fun r => endL (lvL s (baseL s) r) off s.weeks.toNat) ∧ (∀ x ∈ trX, okT x) ∧ q.Ok n1 2 c1 ∧ c1 = (trX.map rowT).flatten) (fun ⟨k, q, n1, trX, c1⟩ => (rnN s - k)) (0, Sl.nil, 0, [], []) ⟨Nat.zero_le _, rfl, rfl, (fun x hx => by cases hx), .none _, rfl⟩ ⟨congrArg (fun z => some (Value.int .i64 z)) (show s.w0 = s.w0 + ((0 : Nat) : Int) by omega), trivial⟩ rfl ?_
    rintro ⟨k, q, n1, trX, c1⟩ ⟨hk, hr1, hr2, hr3, ho1, rfl⟩
    have hlen := rnsTo_len s (baseL s) k
    have hn1 := Ok.rows2 ho1
    have hlr := congrArg List.length hr1
    rw [List.length_map] at hlr
    have hN : rnN s = (s.w1 + 1 - s.w0).toNat := rfl
    refine SX.seq ?_
    refine SX.seq ?_
    refine SX.region ?_
    refine SXL.move rfl ?_
    refine SXL.fieldAddr fp_117_0 rfl ?_
    refine SXL.fieldAddr fp_27_4 rfl ?_
    refine SXL.fieldAddr fp_23_1 rfl ?_
    refine SXL.load1o 6 sh_3 rfl rfl rfl ?_
    refine SXL.leq rfl rfl ?_
    refine SXL.nil ?_
    refine thenQ.normal ?_
    refine SX.condP rfl (fun c15 => ?_) (fun c15 => ?_)
    · refine SX.skip ?_
      refine thenQ.normal ?_
      refine SX.seq ?_
      refine SX.block ?_
      refine SX.seq ?_
      refine SX.region ?_
      refine SXL.loadNo 6 sh_117 rfl rfl (takeAt_full (watC_len (by simp [flL]))) ?_
      refine SXL.move rfl ?_
      refine SXL.callP (AfterR s (baseL s) (s.w0 + (k : Int))) fn_118 rfl (fun w hI => after_any s bo ro bc rc (flL s) (baseL s) hv (relW hv) _ w (hg.inv hI) (hs.inv hI)) ?_; rintro _ ⟨X, hX1, hX2, rfl⟩
      refine SXL.move rfl ?_
      refine SXL.extract rfl rfl ?_
      refine SXL.extract rfl rfl ?_
      refine SXL.alloc zp_114 ?_; intro b9
      refine SXL.insN 9 ?_
      refine SXL.store 9 sz_114 rfl rfl rfl rfl (by simp [hX1]) (putAt_all _ _ (by simp [hX1])) ?_ (ints_isOne _)
      refine SXL.assign rfl ?_
      refine SXL.nil ?_
      refine thenQ.normal ?_
      refine SX.seq ?_
      refine SX.seq ?_
      refine SX.region ?_
      refine SXL.move rfl ?_
      refine SXL.not rfl ?_
      refine SXL.nil ?_
      refine thenQ.normal ?_
      refine SX.condP rfl (fun c25 => ?_) (fun c25 => ?_)
      · refine SX.exit ?_
        refine thenQ.exit ?_
        refine blockQ.exit ?_
        refine thenQ.normal ?_
        refine SX.region ?_
        refine SXL.move rfl ?_
        refine SXL.add rfl rfl (by omega) ?_
        refine SXL.assign rfl ?_
        refine SXL.nil ?_
        refine thenQ.normal ?_
        refine ⟨(k + 1, _, _, trX, _), MeetsW.mk0 9 10 ⟨congrArg (fun z => some (Value.int .i64 z)) (show s.w0 + (k : Int) + 1 = s.w0 + ((k + 1 : Nat) : Int) by omega), trivial⟩ ⟨rfl, rfl, trivial⟩ rfl rfl, ?_, ?_⟩
        · first
          | exact ⟨by omega, by rw [rnsTo_yes hlv, List.map_append, hr1]; rfl, by rw [rnsTo_yes hlv, List.map_append, List.map_append, hr2]; rfl, fun x hx => (List.mem_append.1 hx).elim (hr3 x) (fun h => by simp at h; subst h; show Sl.Ok _ _ _ _; rw [endL_len hXl ho (by omega)]; exact ho2), o_51, by rw [List.map_append, List.flatten_append]; simp [rowT, endL_len hXl ho (show s.weeks.toNat ≤ 10 by omega)]⟩
          | exact ⟨by omega, by rw [rnsTo_no c25]; exact hr1, by rw [rnsTo_no c25]; exact hr2, hr3, ho1, rfl⟩
        · show rnN s - (k + 1) < rnN s - k; omega
      · refine SX.skip ?_
        refine thenQ.normal ?_
        refine SX.seq ?_
        have hlv := Decidable.not_not.1 c25
        obtain rfl := hX2 hlv
        have hXB := (baseL_Bd hv).lv hv (s.w0 + (k : Int))
        have hXl := hXB.len
        refine SX.region ?_
        refine SXL.move rfl ?_
        refine SXL.move rfl ?_
        refine SXL.loadNo 9 sh_114 rfl rfl (takeAt_full (by simp)) ?_
        refine SXL.yield hT hob 8 rfl rfl rfl rfl rfl ?_
        refine SX.seq ?_
        refine SX.region ?_
        refine SXL.assign rfl ?_
        refine SXL.nil ?_
        refine thenQ.normal ?_
        refine SX.region ?_
        refine SXL.alloc zp_114 ?_; intro b10
        refine SXL.insN 10 ?_
        refine SXL.store 10 sz_114 rfl rfl rfl rfl (by simp) (putAt_all _ _ (by simp)) ?_ (ints_isOne _)
        refine SXL.nil ?_
        refine ⟨rfl, ?_⟩
        refine SX.block ?_
        refine SX.seq ?_
        refine SX.region ?_
        refine SXL.move rfl ?_
        refine SXL.buildS pl_151 zp_151 rfl rfl ?_
        refine SXL.alloc zp_151 ?_; intro b11
        refine SXL.insN 11 ?_
        refine SXL.store 11 sz_151 rfl rfl rfl rfl rfl rfl ?_
        refine SXL.nil ?_
        refine thenQ.normal ?_
        refine SX.seq ?_
        refine SX.seq ?_
        refine SX.pad (Sl.nil.ent 3 []) rfl ?_
        refine SX.insN 12 ?_
        refine SX.region ?_
        refine SXL.fieldAddr fp_117_0 rfl ?_
        refine SXL.fieldAddr fp_27_0 rfl ?_
        refine SXL.load1o 2 sh_3 rfl rfl rfl ?_
        refine SXL.sliceAH el_114 rfl rfl (by omega) ?_
        refine SXL.len is_179 rfl ?_
        refine SXL.move rfl ?_
        refine SXL.nil ?_
        refine thenQ.normal ?_
        refine SX.block ?_
        refine SX.loopW (α := Nat × Sl × Nat × List Value) [3, 4, 5, 9, 12, 33, 34] rfl (fun ⟨j, q2, n2, c2⟩ => [(35, .int .i64 ((j : Int)))]) (fun ⟨j, q2, n2, c2⟩ => [(b0, .cells ⟨sp9 s bo ro bc rc⟩ 27 (0, 0)), (b1, .cells ⟨[.func (.func F) ⟨[]⟩ ⟨[]⟩]⟩ 149 (0, 0)), (b2, .cells ⟨watC s bo ro bc rc (flL s)⟩ 117 (0, 0)), (b3, .cells ⟨ints (outA s)⟩ 114 (0, 0)), (b4, .cells ⟨[q.val n1]⟩ 146 (0, 0)), q.ent 151 (trX.map rowT).flatten, (bi, .cells ⟨watC s bo ro bc rc (flL s)⟩ 117 (0, 0)), (r, .deferred (some [])), (l, ob .busy), (b9, .cells ⟨ints (ilv (lvL s (baseL s) (s.w0 + (k : Int))))⟩ 114 (0, 0)), (b10, .cells ⟨ints (ilv (lvL s (baseL s) (s.w0 + (k : Int))))⟩ 114 (0, 0)), (b11, .cells ⟨[.int .i64 (s.w0 + (k : Int)), q2.val n2]⟩ 151 (0, 0)), q2.ent 3 c2]) (fun ⟨j, q2, n2, c2⟩ => trX.map entT) (fun ⟨j, q2, n2, c2⟩ => j ≤ s.weeks.toNat ∧ q2.Ok n2 1 c2 ∧ c2 = ints (endL (lvL s (baseL s) (s.w0 + (k : Int))) off j)) (fun ⟨j, q2, n2, c2⟩ => s.weeks.toNat - j) (0, Sl.nil, 0, []) ⟨Nat.zero_le _, .none _, rfl⟩ ⟨rfl, trivial⟩ rfl ?_
        rintro ⟨j, q2, n2, c2⟩ ⟨hj, ho2, rfl⟩
        have hn2 := Ok.n ho2
        rw [endL_len hXl ho (by omega)] at hn2
        refine SX.seq ?_
        refine SX.region ?_
        refine SXL.lss rfl rfl ?_
        refine SXL.nil ?_
        refine thenQ.normal ?_
        refine SX.seq ?_
        refine SX.condP rfl (fun c4 => ?_) (fun c4 => ?_)
        · refine SX.skip ?_
          refine thenQ.normal ?_
          refine SX.seq ?_
          refine SX.block ?_
          refine SX.seq ?_
          refine SX.region ?_
          refine SXL.indexS el_179 rfl rfl (by omega) ?_
          refine SXL.loadNo 10 sh_23 rfl rfl (ints_take2' (M := ilv (lvL s (baseL s) (s.w0 + (k : Int)))) (i := j) (by simp <;> omega) (by simp; omega)) ?_
          refine SXL.alloc zp_23 ?_; intro b13
          refine SXL.insN 13 ?_
          refine SXL.store 13 sz_23 rfl rfl rfl rfl rfl rfl ?_
          refine SXL.nil ?_
          refine thenQ.normal ?_
          obtain ⟨x1, x2⟩ := ilv_at (lvL s (baseL s) (s.w0 + (k : Int))) (w := j) (by omega)
          refine SX.draw 8 (by kernel_rfl) (by kernel_rfl) ⟨[0, 2, 3, 7, 8], [true, true, true, true, true, true, true, true, true, true, true, true, false]⟩ ?_
          refine SXA.takeM 0 1 rfl (by kernel_rfl) rfl ?_
          refine SXL.fieldAddr fp_151_1 rfl ?_
          refine SXL.nil ⟨rfl, rfl, rfl, ?_⟩
          refine SXA.take 1 1 rfl (by kernel_rfl) rfl ?_
          refine SXL.load1o 11 sh_35 rfl rfl rfl ?_
          refine SXL.nil ⟨rfl, rfl, rfl, ?_⟩
          refine SXA.takeM 2 2 rfl (by kernel_rfl) rfl ?_
          refine SXL.load1o 1 sh_149 rfl rfl rfl ?_
          refine SXL.loadNo 12 sh_23 rfl rfl rfl ?_
          refine SXL.nil ⟨rfl, rfl, rfl, ?_⟩
          refine SXA.take 4 1 rfl (by kernel_rfl) rfl ?_
          refine SXL.call1V (.int .i64 (G (lvL s (baseL s) (s.w0 + (k : Int))) (off + j))) hF rfl rfl (fun w hI => (hc (lvL s (baseL s) (s.w0 + (k : Int))) j w).mono fun v own h => h (by omega)) ?_
          refine SXL.nil ⟨rfl, rfl, rfl, ?_⟩
          refine SXA.all [5] (by kernel_rfl) rfl ⟨⟨?_, rfl⟩, trivial⟩
          refine (show SXL _ _ [_] _ _ from ?_)
          refine SXL.buildSlice et_35 zp_3 rfl rfl rfl rfl ?_; intro b14
          refine SXL.nil (stepQ.mk _ rfl rfl ?_)
          refine SXA.all [6] (by kernel_rfl) rfl ⟨⟨?_, rfl⟩, trivial⟩
          refine (show SXL _ _ [_] _ _ from ?_)
          refine SXL.append 12 ap_35 rfl rfl ho2 rfl srcLast rfl rfl ⟨by simp only [maxLen]; omega, by omega⟩ ?_; intro r_45 o_45
          refine SXL.nil (stepQ.mkL0 (by kernel_rfl) rfl rfl ?_)
          refine SXA.takeM 7 1 rfl (by kernel_rfl) rfl ?_
          refine SXL.fieldAddr fp_151_1 rfl ?_
          refine SXL.nil ⟨rfl, rfl, rfl, ?_⟩
          refine SXA.done (by kernel_rfl) ?_
          refine SXL.store 11 sz_35 rfl rfl rfl rfl rfl rfl ?_
          refine SXL.nil ?_
          refine blockQ.normal ?_
          refine thenQ.normal ?_
          refine SX.region ?_
          refine SXL.add rfl rfl (by omega) ?_
          refine SXL.move rfl ?_
          refine SXL.nil ?_
          refine thenQ.normal ?_
          refine ⟨(j + 1, _, _, _), MeetsW.mkJ 13 14 _ ⟨rfl, trivial⟩ ⟨rfl, rfl, rfl, rfl, rfl, rfl, rfl, trivial⟩ rfl rfl, ⟨by omega, o_45, by rw [endL_succ hXl (by omega), ints_snoc]; rfl⟩, (show s.weeks.toNat - (j + 1) < s.weeks.toNat - j by omega)⟩
        · refine SX.exit ?_
          refine thenQ.exit ?_
          refine thenQ.exit ?_
          refine blockQ.exit ?_
          refine thenQ.normal ?_
          obtain rfl : j = s.weeks.toNat := by omega
          have hn2 := Ok.n ho2
          rw [endL_len hXl ho (by omega)] at hn2
          subst hn2
          refine SX.region ?_
          refine SXL.load1o 4 sh_146 rfl rfl rfl ?_
          refine SXL.loadNo 11 sh_151 rfl rfl rfl ?_
          refine SXL.buildSlice et_146 zp_151 rfl rfl rfl rfl ?_; intro b13
          refine SXL.insN 13 ?_
          refine SXL.append 5 ap_146 rfl rfl ho1 rfl (.inr ⟨_, _, rfl, Mem.own (i := 13) rfl (takeAt_all _)⟩) rfl rfl ⟨by simp only [maxLen]; omega, by omega⟩ ?_; intro r_51 o_51
          refine SXL.store 4 sz_146 rfl rfl rfl rfl rfl rfl ?_
          refine SXL.nil ?_
          refine blockQ.normal ?_
          refine ⟨rfl, ?_⟩
          refine SXL.not rfl ?_
          refine SXL.nil ?_
          refine thenQ.normal ?_
          refine SX.condP rfl (fun c30 => ?_) (fun c30 => ?_)
          · exfalso; exact c30 trivial
          refine SX.skip ?_
          refine blockQ.normal ?_
          refine thenQ.normal ?_
          refine SX.region ?_
          refine SXL.move rfl ?_
          refine SXL.add rfl rfl (by omega) ?_
          refine SXL.assign rfl ?_
          refine SXL.nil ?_
          refine thenQ.normal ?_
          refine ⟨(k + 1, _, _, (trX ++ [(s.w0 + (k : Int), q2, (endL (lvL s (baseL s) (s.w0 + (k : Int))) off s.weeks.toNat))]), _), MeetsW.mk1 9 14 3 _ _ ⟨congrArg (fun z => some (Value.int .i64 z)) (show s.w0 + (k : Int) + 1 = s.w0 + ((k + 1 : Nat) : Int) by omega), trivial⟩ ⟨rfl, rfl, trivial⟩ rfl rfl rfl (by simp [entT]), ?_, ?_⟩
          · first
            | exact ⟨by omega, by rw [rnsTo_yes hlv, List.map_append, hr1]; rfl, by rw [rnsTo_yes hlv, List.map_append, List.map_append, hr2]; rfl, fun x hx => (List.mem_append.1 hx).elim (hr3 x) (fun h => by simp at h; subst h; show Sl.Ok _ _ _ _; rw [endL_len hXl ho (by omega)]; exact ho2), o_51, by rw [List.map_append, List.flatten_append]; simp [rowT, endL_len hXl ho (show s.weeks.toNat ≤ 10 by omega)]⟩
            | exact ⟨by omega, by rw [rnsTo_no c25]; exact hr1, by rw [rnsTo_no c25]; exact hr2, hr3, ho1, rfl⟩
          · show rnN s - (k + 1) < rnN s - k; omega
    · refine SX.exit ?_
      refine thenQ.exit ?_
      refine thenQ.exit ?_
      refine blockQ.exit ?_
      refine scopeQ.normal ?_
      refine retQ.zeroN ?_
      refine ⟨8, rfl, ?_⟩
      refine blockQ.normal ?_
      refine thenQ.normal ?_
      refine SX.seq ?_
      obtain rfl : k = rnN s := by omega
      refine SX.region ?_
      refine SXL.load1o 4 sh_146 rfl rfl rfl ?_
      refine SXL.assign rfl ?_
      refine SXL.assign rfl ?_
      refine SXL.nil ?_
      refine thenQ.normal ?_
      refine SX.ret ?_
      refine retQ.unmark 7 rfl ?_
      refine retQ.selS (Sel.keepV 9 [5] rfl rfl) ?_
      refine retQ.two (ResAt.tmp rfl) (ResAt.tmp rfl) ?_
      have e2 := Ok.rows2 ho1; subst e2; exact ⟨q, trX, by rw [toldL_ok hTo]; exact hr1, by rw [toldA, toldL_ok hTo, lvsL, List.map_map]; exact hr2, hr3, ho1, by rw [hTo], rfl⟩
theorem cmpPoor (x y : Trt) (hx : (x.2.2.length ≤ 10 ∧ ∀ i, i < x.2.2.length → -1000 ≤ x.2.2.getD i 0 ∧ x.2.2.getD i 0 ≤ 1000)) (hy : (y.2.2.length ≤ 10 ∧ ∀ i, i < y.2.2.length → -1000 ≤ y.2.2.getD i 0 ∧ y.2.2.getD i 0 ≤ 1000)) (w : World) (rx : RowsAt w x.2.1.addr 1 (ones x.2.2)) (ry : RowsAt w y.2.1.addr 1 (ones y.2.2)) :
    CallsR Tryd.prog 100 [.agg ⟨rowT x⟩, .agg ⟨rowT y⟩] w (fun v _ => v = .int .i64 (cmpV (sumL x.2.2) (sumL y.2.2))) := by
  refine CallsR.of_SX (n := 12) (rs := [.tmp 4]) Tryd.func100 rfl rfl rfl rfl ?_
  show SX _ _ _ ⟨[(0, .agg ⟨rowT x⟩), (1, .agg ⟨rowT y⟩)], [], []⟩
  refine SX.seq ?_
  refine SX.region ?_
  refine SXL.box rfl rfl ?_; intro b0
  refine SXL.box rfl rfl ?_; intro b1
  refine SXL.assign rfl ?_
  refine SXL.nil ?_
  refine thenQ.normal ?_
  refine SX.seq ?_
  refine SX.draw 8 (by kernel_rfl) (by kernel_rfl) {} ?_
  refine SXA.take 0 8 rfl (by kernel_rfl) rfl ?_
  refine SXL.fieldAddr fp_151_1 rfl ?_
  refine SXL.load1o 0 sh_35 rfl rfl rfl ?_
  refine SXL.call1 (.int .i64 (sumL x.2.2)) fn_101 rfl (fun w hI => sum_any x.2.2 _ _ hx _ (rx.inv hI)) ?_
  refine SXL.fieldAddr fp_151_1 rfl ?_
  refine SXL.load1o 1 sh_35 rfl rfl rfl ?_
  refine SXL.call1 (.int .i64 (sumL y.2.2)) fn_101 rfl (fun w hI => sum_any y.2.2 _ _ hy _ (ry.inv hI)) ?_
  refine SXL.call1 (.int .i64 (cmpV (sumL x.2.2) (sumL y.2.2))) fn_91 rfl (fun w hI => compare_any _ _ _) ?_
  refine SXL.assign rfl ?_
  refine SXL.nil ⟨rfl, rfl, rfl, ?_⟩
  refine SXA.done (by kernel_rfl) ?_
  refine SXL.nil ?_
  refine thenQ.normal ?_
  refine SX.ret ?_
  refine retQ.one (ResAt.tmp rfl) ?_
  rfl
theorem minPoor (tr : List Trt) (ao : Option Addr) (c : Nat) (hl : 0 < tr.length) (hl2 : tr.length ≤ 1000) (hsm : SmT tr) (w : World) (h : TrAt w ao tr) :
    CallsR Tryd.prog 127 [.slice ao tr.length c, .func (.func 100) ⟨[]⟩ ⟨[]⟩] w (fun v _ => v = .agg ⟨rowT (tr.getD (amin (fun i => sumL (tr.getD i default).2.2) (tr.length - 1)) default)⟩) := by
  refine CallsR.of_SX (n := 33) (rs := [.cell 4 151]) Tryd.func127 rfl rfl rfl rfl ?_
  show SX _ _ _ ⟨[(0, .slice ao tr.length c), (1, .func (.func 100) ⟨[]⟩ ⟨[]⟩)], [], []⟩
  refine SX.seq ?_
  refine SX.region ?_
  refine SXL.alloc zp_151 ?_; intro b0
  refine SXL.nil ?_
  refine thenQ.normal ?_
  refine SX.seq ?_
  refine SX.seq ?_
  refine SX.region ?_
  refine SXL.move rfl ?_
  refine SXL.len is_146 rfl ?_
  refine SXL.lss rfl rfl ?_
  refine SXL.nil ?_
  refine thenQ.normal ?_
  refine SX.condP rfl (fun c9 => ?_) (fun c9 => ?_)
  · exfalso; omega
  refine SX.skip ?_
  refine thenQ.normal ?_
  refine SX.seq ?_
  obtain ⟨ba, oa, ha0, hm0⟩ := h.row hl
  refine SX.region ?_
  refine SXL.move rfl ?_
  refine SXL.indexR el_146 rfl rfl ha0 (by omega) ?_
  refine SXL.loadN sh_151 rfl (hm0 _) rfl ?_
  refine SXL.alloc zp_151 ?_; intro b1
  refine SXL.store 1 sz_151 rfl rfl rfl rfl rfl rfl ?_
  refine SXL.nil ?_
  refine thenQ.normal ?_
  refine SX.seq ?_
  refine SX.seq ?_
  refine SX.region ?_
  refine SXL.assign rfl ?_
  refine SXL.nil ?_
  refine thenQ.normal ?_
  refine SX.block ?_
  refine SX.loopW (α := Nat × Nat) [0, 1, 4, 5] rfl (fun ⟨k, j⟩ => [(6, .int .i64 ((k : Int)))]) (fun ⟨k, j⟩ => [(b0, .cells ⟨[.int .i64 0, .slice none 0 0]⟩ 151 (0, 0)), (b1, .cells ⟨rowT (tr.getD j default)⟩ 151 (0, 0))]) (fun ⟨k, j⟩ => []) (fun ⟨k, j⟩ => 1 ≤ k ∧ k ≤ tr.length ∧ j = amin (fun i => sumL (tr.getD i default).2.2) (k - 1)) (fun ⟨k, j⟩ => tr.length - k) (1, 0) ⟨Nat.le_refl _, by omega, rfl⟩ ⟨rfl, trivial⟩ rfl ?_
  rintro ⟨k, j⟩ ⟨hk1, hk, hj⟩
  refine SX.seq ?_
  refine SX.seq ?_
  refine SX.region ?_
  refine SXL.move rfl ?_
  refine SXL.move rfl ?_
  refine SXL.len is_146 rfl ?_
  refine SXL.lss rfl rfl ?_
  refine SXL.nil ?_
  refine thenQ.normal ?_
  refine SX.condP rfl (fun c17 => ?_) (fun c17 => ?_)
  · refine SX.skip ?_
    refine thenQ.normal ?_
    refine SX.seq ?_
    refine SX.block ?_
    refine SX.seq ?_
    have hk3 : k < tr.length := by omega
    have hj3 : j < tr.length := by have := amin_le (fun i => sumL (tr.getD i default).2.2) (k - 1); omega
    obtain ⟨b, o, ha, hm⟩ := h.row hk3
    refine SX.draw 8 (by kernel_rfl) (by kernel_rfl) {} ?_
    refine SXA.take 0 8 rfl (by kernel_rfl) rfl ?_
    refine SXL.move rfl ?_
    refine SXL.move rfl ?_
    refine SXL.move rfl ?_
    refine SXL.indexR el_146 rfl rfl ha (by omega) ?_
    refine SXL.loadN sh_151 rfl (hm _) rfl ?_
    refine SXL.loadNo 1 sh_151 rfl rfl rfl ?_
    refine SXL.call1V (.int .i64 (cmpV (sumL (tr.getD k default).2.2) (sumL (tr.getD j default).2.2))) fn_100 rfl rfl (fun w hI => cmpPoor (tr.getD k default) (tr.getD j default) (hsm _ (tr_get hk3)) (hsm _ (tr_get hj3)) _ ((h.each _ (tr_get hk3)).inv hI) ((h.each _ (tr_get hj3)).inv hI)) ?_
    refine SXL.lss rfl rfl ?_
    refine SXL.nil ⟨rfl, rfl, rfl, ?_⟩
    refine SXA.done (by kernel_rfl) ?_
    refine SXL.nil ?_
    refine thenQ.normal ?_
    refine SX.condP rfl (fun c27 => ?_) (fun c27 => ?_)
    · refine SX.region ?_
      refine SXL.move rfl ?_
      refine SXL.move rfl ?_
      refine SXL.indexR el_146 rfl rfl ha (by omega) ?_
      refine SXL.loadN sh_151 rfl (hm _) rfl ?_
      refine SXL.store 1 sz_151 rfl rfl rfl rfl rfl rfl ?_
      refine SXL.nil ?_
      refine blockQ.normal ?_
      refine thenQ.normal ?_
      refine SX.region ?_
      refine SXL.move rfl ?_
      refine SXL.add rfl rfl (by omega) ?_
      refine SXL.assign rfl ?_
      refine SXL.nil ?_
      refine thenQ.normal ?_
      refine ⟨(k + 1, _), MeetsW.mkP _ ⟨rfl, trivial⟩ ⟨rfl, rfl, rfl, rfl, trivial⟩ rfl, ⟨by omega, by omega, by
        first
        | exact (show k = amin (fun i => sumL (tr.getD i default).2.2) k by rw [amin_at _ hk1, ← hj, if_pos (show (fun i => sumL (tr.getD i default).2.2) k < (fun i => sumL (tr.getD i default).2.2) j from (by have h1 := cmpV_neg.1 c27; show sumL _ < sumL _; omega))])
        | exact (show j = amin (fun i => sumL (tr.getD i default).2.2) k by rw [amin_at _ hk1, ← hj, if_neg (show ¬(fun i => sumL (tr.getD i default).2.2) k < (fun i => sumL (tr.getD i default).2.2) j from (by intro h2; exact c27 (cmpV_neg.2 (by have h3 : sumL (tr.getD k default).2.2 < sumL (tr.getD j default).2.2 := h2; omega))))])⟩, (show tr.length - (k + 1) < tr.length - k by omega)⟩
    · refine SX.skip ?_
      refine blockQ.normal ?_
      refine thenQ.normal ?_
      refine SX.region ?_
      refine SXL.move rfl ?_
      refine SXL.add rfl rfl (by omega) ?_
      refine SXL.assign rfl ?_
      refine SXL.nil ?_
      refine thenQ.normal ?_
      refine ⟨(k + 1, _), MeetsW.mkP _ ⟨rfl, trivial⟩ ⟨rfl, rfl, rfl, rfl, trivial⟩ rfl, ⟨by omega, by omega, by
        first
        | exact (show k = amin (fun i => sumL (tr.getD i default).2.2) k by rw [amin_at _ hk1, ← hj, if_pos (show (fun i => sumL (tr.getD i default).2.2) k < (fun i => sumL (tr.getD i default).2.2) j from (by have h1 := cmpV_neg.1 c27; show sumL _ < sumL _; omega))])
        | exact (show j = amin (fun i => sumL (tr.getD i default).2.2) k by rw [amin_at _ hk1, ← hj, if_neg (show ¬(fun i => sumL (tr.getD i default).2.2) k < (fun i => sumL (tr.getD i default).2.2) j from (by intro h2; exact c27 (cmpV_neg.2 (by have h3 : sumL (tr.getD k default).2.2 < sumL (tr.getD j default).2.2 := h2; omega))))])⟩, (show tr.length - (k + 1) < tr.length - k by omega)⟩
  · refine SX.exit ?_
    refine thenQ.exit ?_
    refine thenQ.exit ?_
    refine blockQ.exit ?_
    refine thenQ.normal ?_
    refine SX.seq ?_
    obtain rfl : k = tr.length := by omega
    subst hj
    refine SX.region ?_
    refine SXL.loadNo 1 sh_151 rfl rfl rfl ?_
    refine SXL.store 0 sz_151 rfl rfl rfl rfl rfl rfl ?_
    refine SXL.nil ?_
    refine thenQ.normal ?_
    refine SX.ret ?_
    refine retQ.dead [] rfl ?_
    refine retQ.one (ResAt.cellNo 0 sh_151 rfl rfl rfl) ?_
    rfl
theorem firstPoor (tr : List Trt) (ao : Option Addr) (c : Nat) (hl : 0 < tr.length) (hl2 : tr.length ≤ 1000) (hsm : SmT tr) (w : World) (h : TrAt w ao tr) :
    CallsR Tryd.prog 99 [.slice ao tr.length c, .func (.func 100) ⟨[]⟩ ⟨[]⟩] w (fun v _ => v = .agg ⟨rowT (tr.getD (amin (fun i => sumL (tr.getD i default).2.2) (tr.length - 1)) default)⟩) := by
  refine CallsR.of_SX (n := 8) (rs := [.cell 4 151]) Tryd.func99 rfl rfl rfl rfl ?_
  show SX _ _ _ ⟨[(0, .slice ao tr.length c), (1, .func (.func 100) ⟨[]⟩ ⟨[]⟩)], [], []⟩
  refine SX.seq ?_
  refine SX.region ?_
  refine SXL.alloc zp_151 ?_; intro b0
  refine SXL.nil ?_
  refine thenQ.normal ?_
  refine SX.seq ?_
  refine SX.region ?_
  refine SXL.move rfl ?_
  refine SXL.move rfl ?_
  refine SXL.call1 (.agg ⟨rowT (tr.getD (amin (fun i => sumL (tr.getD i default).2.2) (tr.length - 1)) default)⟩) fn_127 rfl (fun w hI => minPoor tr ao c hl hl2 hsm _ (h.inv hI)) ?_
  refine SXL.store 0 sz_151 rfl rfl rfl rfl rfl rfl ?_
  refine SXL.nil ?_
  refine thenQ.normal ?_
  refine SX.ret ?_
  refine retQ.dead [] rfl ?_
  refine retQ.one (ResAt.cellNo 0 sh_151 rfl rfl rfl) ?_
  rfl
set_option maxHeartbeats 2000000 in
theorem spoor_any (s : Sp) (bo ro : Option Addr) (bc rc : Nat) (hb : s.book.length ≤ 1000000) (hr : s.reads.length ≤ 1000000) (w : World) (hg : Gl w) (hs : SpAt w s bo ro) :
    CallsR Tryd.prog 46 [.agg ⟨[.int .i64 s.weeks, .int .i64 s.most, .int .i64 s.fall, .int .i64 s.a0, .int .i64 s.a1, .int .i64 s.w0, .int .i64 s.w1, (.slice bo s.book.length bc), (.slice ro s.reads.length rc)]⟩] w (IsR3 (bestR s (poorI s)) (bestL s 0 (poorI s)) (toldE s 0)) := by
  refine CallsR.of_SX (n := 21) (rs := [.tmp 2, .tmp 3, .tmp 4]) Tryd.func46 rfl rfl rfl rfl ?_
  show SX _ _ _ ⟨[(0, .agg ⟨[.int .i64 s.weeks, .int .i64 s.most, .int .i64 s.fall, .int .i64 s.a0, .int .i64 s.a1, .int .i64 s.w0, .int .i64 s.w1, (.slice bo s.book.length bc), (.slice ro s.reads.length rc)]⟩)], [], []⟩
  refine SX.seq ?_
  refine SX.region ?_
  refine SXL.box rfl rfl ?_; intro b0
  refine SXL.assign rfl ?_
  refine SXL.assign rfl ?_
  refine SXL.assign rfl ?_
  refine SXL.nil ?_
  refine thenQ.normal ?_
  refine SX.seq ?_
  refine SX.region ?_
  refine SXL.loadNo 0 sh_27 rfl rfl rfl ?_
  refine SXL.callF (EndsR s 0) fn_97 rfl (fun w hI => ends_any s bo ro bc rc 98 0 fn_98 (by omega) hb hr w (hg.inv hI) (hs.inv hI) (fun M k w2 => (endLo _ _ w2).mono fun v own h hk => h.trans (congrArg (Value.int .i64) (by obtain ⟨y1, y2⟩ := ilv_at M hk; first | (rw [y1, Nat.zero_add]) | (rw [y2]))))) ?_; rintro _ _ ⟨q, tr, e1, e2, e3, oq, rfl, rfl⟩
  refine SXL.move rfl ?_
  refine SXL.extract rfl rfl ?_
  refine SXL.extract rfl rfl ?_
  refine SXL.assign rfl ?_
  refine SXL.assign rfl ?_
  refine SXL.nil ?_
  refine thenQ.normal ?_
  refine SX.seq ?_
  refine SX.seq ?_
  refine SX.region ?_
  refine SXL.move rfl ?_
  refine SXL.neqI rfl rfl ?_
  refine SXL.nil ?_
  refine thenQ.normal ?_
  refine SX.condP rfl (fun c13 => ?_) (fun c13 => ?_)
  · refine SX.seq ?_
    refine SX.region ?_
    refine SXL.move rfl ?_
    refine SXL.assign rfl ?_
    refine SXL.assign rfl ?_
    refine SXL.assign rfl ?_
    refine SXL.nil ?_
    refine thenQ.normal ?_
    refine SX.ret ?_
    refine thenQ.ret ?_
    refine retQ.dead [Sl.nil.ent 3 []] rfl ?_
    refine retQ.three (ResAt.tmp rfl) (ResAt.tmp rfl) (ResAt.tmp rfl) ?_
    rw [bestR, bestL, if_neg c13, if_neg c13]; exact ⟨Sl.nil, Sl.Ok.none _, rfl, rfl⟩
  · refine SX.skip ?_
    refine thenQ.normal ?_
    refine SX.seq ?_
    have hTo : toldE s 0 = 0 := Decidable.not_not.1 c13
    have htl : tr.length = (toldL s 0).length := by rw [← e1, List.length_map]
    have htp : 0 < tr.length := by rw [htl]; exact toldL_pos hTo
    have htm := toldL_max hTo
    have hsm : SmT tr := tr_small hTo (by omega) e2
    have hbl := amin_le (fun i => sumL (tr.getD i default).2.2) (tr.length - 1)
    have hbi : (amin (fun i => sumL (tr.getD i default).2.2) (tr.length - 1)) = poorI s := by unfold poorI; rw [htl]; exact amin_congr _ fun i hi => by show sumL _ = sumL _; rw [tr_list e2 (by omega)]
    refine SX.region ?_
    refine SXL.move rfl ?_
    refine SXL.call1 (.agg ⟨rowT (tr.getD (amin (fun i => sumL (tr.getD i default).2.2) (tr.length - 1)) default)⟩) fn_99 rfl (fun w hI => firstPoor tr q.addr q.cap htp (by omega) hsm _ ⟨Sl.rows hI (by omega) oq (i := 1) rfl (rowT_len tr), fun x hx => by obtain ⟨i, hi, rfl⟩ := List.getElem_of_mem hx; exact slOnes hI (e3 _ hx) (i := 2 + i) ((cons2_get _ _ (tr.map entT) i).trans (by rw [List.getElem?_map, List.getElem?_eq_getElem hi]; rfl))⟩) ?_
    refine SXL.alloc zp_151 ?_; intro b2
    refine SXL.insN 2 ?_
    refine SXL.store 2 sz_151 rfl rfl rfl rfl rfl rfl ?_
    refine SXL.nil ?_
    refine thenQ.normal ?_
    refine SX.seq ?_
    refine SX.draw 7 (by kernel_rfl) (by kernel_rfl) {} ?_
    refine SXA.take 0 7 rfl (by kernel_rfl) rfl ?_
    refine SXL.fieldAddr fp_151_0 rfl ?_
    refine SXL.load1o 2 sh_3 rfl rfl rfl ?_
    refine SXL.fieldAddr fp_151_1 rfl ?_
    refine SXL.load1o 2 sh_35 rfl rfl rfl ?_
    refine SXL.assign rfl ?_
    refine SXL.assign rfl ?_
    refine SXL.assign rfl ?_
    refine SXL.nil ⟨rfl, rfl, rfl, ?_⟩
    refine SXA.done (by kernel_rfl) ?_
    refine SXL.nil ?_
    refine thenQ.normal ?_
    refine SX.ret ?_
    refine retQ.selS (Sel.at (i := 3 + (amin (fun i => sumL (tr.getD i default).2.2) (tr.length - 1))) (x := entT (tr.getD (amin (fun i => sumL (tr.getD i default).2.2) (tr.length - 1)) default)) ((cons3_get _ _ _ (tr.map entT) (amin (fun i => sumL (tr.getD i default).2.2) (tr.length - 1))).trans (tr_ent (show (amin (fun i => sumL (tr.getD i default).2.2) (tr.length - 1)) < tr.length by omega)))) ?_
    refine retQ.three (ResAt.tmp rfl) (ResAt.tmp rfl) (ResAt.tmp rfl) ?_
    have hok := e3 _ (tr_get (show (amin (fun i => sumL (tr.getD i default).2.2) (tr.length - 1)) < tr.length by omega))
    have hlst := tr_list e2 (show (amin (fun i => sumL (tr.getD i default).2.2) (tr.length - 1)) < tr.length by omega)
    have hrn := tr_rain e1 (show (amin (fun i => sumL (tr.getD i default).2.2) (tr.length - 1)) < tr.length by omega)
    rw [hTo, bestR, bestL, if_pos hTo, if_pos hTo, ← hbi, ← hlst, ← hrn]
    exact ⟨_, hok, rfl, rfl⟩
theorem cmpRich (x y : Trt) (hx : (x.2.2.length ≤ 10 ∧ ∀ i, i < x.2.2.length → -1000 ≤ x.2.2.getD i 0 ∧ x.2.2.getD i 0 ≤ 1000)) (hy : (y.2.2.length ≤ 10 ∧ ∀ i, i < y.2.2.length → -1000 ≤ y.2.2.getD i 0 ∧ y.2.2.getD i 0 ≤ 1000)) (w : World) (rx : RowsAt w x.2.1.addr 1 (ones x.2.2)) (ry : RowsAt w y.2.1.addr 1 (ones y.2.2)) :
    CallsR Tryd.prog 103 [.agg ⟨rowT x⟩, .agg ⟨rowT y⟩] w (fun v _ => v = .int .i64 (cmpV (sumL y.2.2) (sumL x.2.2))) := by
  refine CallsR.of_SX (n := 12) (rs := [.tmp 4]) Tryd.func103 rfl rfl rfl rfl ?_
  show SX _ _ _ ⟨[(0, .agg ⟨rowT x⟩), (1, .agg ⟨rowT y⟩)], [], []⟩
  refine SX.seq ?_
  refine SX.region ?_
  refine SXL.box rfl rfl ?_; intro b0
  refine SXL.box rfl rfl ?_; intro b1
  refine SXL.assign rfl ?_
  refine SXL.nil ?_
  refine thenQ.normal ?_
  refine SX.seq ?_
  refine SX.draw 8 (by kernel_rfl) (by kernel_rfl) {} ?_
  refine SXA.take 0 8 rfl (by kernel_rfl) rfl ?_
  refine SXL.fieldAddr fp_151_1 rfl ?_
  refine SXL.load1o 1 sh_35 rfl rfl rfl ?_
  refine SXL.call1 (.int .i64 (sumL y.2.2)) fn_101 rfl (fun w hI => sum_any y.2.2 _ _ hy _ (ry.inv hI)) ?_
  refine SXL.fieldAddr fp_151_1 rfl ?_
  refine SXL.load1o 0 sh_35 rfl rfl rfl ?_
  refine SXL.call1 (.int .i64 (sumL x.2.2)) fn_101 rfl (fun w hI => sum_any x.2.2 _ _ hx _ (rx.inv hI)) ?_
  refine SXL.call1 (.int .i64 (cmpV (sumL y.2.2) (sumL x.2.2))) fn_91 rfl (fun w hI => compare_any _ _ _) ?_
  refine SXL.assign rfl ?_
  refine SXL.nil ⟨rfl, rfl, rfl, ?_⟩
  refine SXA.done (by kernel_rfl) ?_
  refine SXL.nil ?_
  refine thenQ.normal ?_
  refine SX.ret ?_
  refine retQ.one (ResAt.tmp rfl) ?_
  rfl
theorem minRich (tr : List Trt) (ao : Option Addr) (c : Nat) (hl : 0 < tr.length) (hl2 : tr.length ≤ 1000) (hsm : SmT tr) (w : World) (h : TrAt w ao tr) :
    CallsR Tryd.prog 127 [.slice ao tr.length c, .func (.func 103) ⟨[]⟩ ⟨[]⟩] w (fun v _ => v = .agg ⟨rowT (tr.getD (amin (fun i => -sumL (tr.getD i default).2.2) (tr.length - 1)) default)⟩) := by
  refine CallsR.of_SX (n := 33) (rs := [.cell 4 151]) Tryd.func127 rfl rfl rfl rfl ?_
  show SX _ _ _ ⟨[(0, .slice ao tr.length c), (1, .func (.func 103) ⟨[]⟩ ⟨[]⟩)], [], []⟩
  refine SX.seq ?_
  refine SX.region ?_
  refine SXL.alloc zp_151 ?_; intro b0
  refine SXL.nil ?_
  refine thenQ.normal ?_
  refine SX.seq ?_
  refine SX.seq ?_
  refine SX.region ?_
  refine SXL.move rfl ?_
  refine SXL.len is_146 rfl ?_
  refine SXL.lss rfl rfl ?_
  refine SXL.nil ?_
  refine thenQ.normal ?_
  refine SX.condP rfl (fun c9 => ?_) (fun c9 => ?_)
  · exfalso; omega
  refine SX.skip ?_
  refine thenQ.normal ?_
  refine SX.seq ?_
  obtain ⟨ba, oa, ha0, hm0⟩ := h.row hl
  refine SX.region ?_
  refine SXL.move rfl ?_
  refine SXL.indexR el_146 rfl rfl ha0 (by omega) ?_
  refine SXL.loadN sh_151 rfl (hm0 _) rfl ?_
  refine SXL.alloc zp_151 ?_; intro b1
  refine SXL.store 1 sz_151 rfl rfl rfl rfl rfl rfl ?_
  refine SXL.nil ?_
  refine thenQ.normal ?_
  refine SX.seq ?_
  refine SX.seq ?_
  refine SX.region ?_
  refine SXL.assign rfl ?_
  refine SXL.nil ?_
  refine thenQ.normal ?_
  refine SX.block ?_
  refine SX.loopW (α := Nat × Nat) [0, 1, 4, 5] rfl (fun ⟨k, j⟩ => [(6, .int .i64 ((k : Int)))]) (fun ⟨k, j⟩ => [(b0, .cells ⟨[.int .i64 0, .slice none 0 0]⟩ 151 (0, 0)), (b1, .cells ⟨rowT (tr.getD j default)⟩ 151 (0, 0))]) (fun ⟨k, j⟩ => []) (fun ⟨k, j⟩ => 1 ≤ k ∧ k ≤ tr.length ∧ j = amin (fun i => -sumL (tr.getD i default).2.2) (k - 1)) (fun ⟨k, j⟩ => tr.length - k) (1, 0) ⟨Nat.le_refl _, by omega, rfl⟩ ⟨rfl, trivial⟩ rfl ?_
  rintro ⟨k, j⟩ ⟨hk1, hk, hj⟩
  refine SX.seq ?_
  refine SX.seq ?_
  refine SX.region ?_
  refine SXL.move rfl ?_
  refine SXL.move rfl ?_
  refine SXL.len is_146 rfl ?_
  refine SXL.lss rfl rfl ?_
  refine SXL.nil ?_
  refine thenQ.normal ?_
  refine SX.condP rfl (fun c17 => ?_) (fun c17 => ?_)
  · refine SX.skip ?_
    refine thenQ.normal ?_
    refine SX.seq ?_
    refine SX.block ?_
    refine SX.seq ?_
    have hk3 : k < tr.length := by omega
    have hj3 : j < tr.length := by have := amin_le (fun i => -sumL (tr.getD i default).2.2) (k - 1); omega
    obtain ⟨b, o, ha, hm⟩ := h.row hk3
    refine SX.draw 8 (by kernel_rfl) (by kernel_rfl) {} ?_
    refine SXA.take 0 8 rfl (by kernel_rfl) rfl ?_
    refine SXL.move rfl ?_
    refine SXL.move rfl ?_
    refine SXL.move rfl ?_
    refine SXL.indexR el_146 rfl rfl ha (by omega) ?_
    refine SXL.loadN sh_151 rfl (hm _) rfl ?_
    refine SXL.loadNo 1 sh_151 rfl rfl rfl ?_
    refine SXL.call1V (.int .i64 (cmpV (sumL (tr.getD j default).2.2) (sumL (tr.getD k default).2.2))) fn_103 rfl rfl (fun w hI => cmpRich (tr.getD k default) (tr.getD j default) (hsm _ (tr_get hk3)) (hsm _ (tr_get hj3)) _ ((h.each _ (tr_get hk3)).inv hI) ((h.each _ (tr_get hj3)).inv hI)) ?_
    refine SXL.lss rfl rfl ?_
    refine SXL.nil ⟨rfl, rfl, rfl, ?_⟩
    refine SXA.done (by kernel_rfl) ?_
    refine SXL.nil ?_
    refine thenQ.normal ?_
    refine SX.condP rfl (fun c27 => ?_) (fun c27 => ?_)
    · refine SX.region ?_
      refine SXL.move rfl ?_
      refine SXL.move rfl ?_
      refine SXL.indexR el_146 rfl rfl ha (by omega) ?_
      refine SXL.loadN sh_151 rfl (hm _) rfl ?_
      refine SXL.store 1 sz_151 rfl rfl rfl rfl rfl rfl ?_
      refine SXL.nil ?_
      refine blockQ.normal ?_
      refine thenQ.normal ?_
      refine SX.region ?_
      refine SXL.move rfl ?_
      refine SXL.add rfl rfl (by omega) ?_
      refine SXL.assign rfl ?_
      refine SXL.nil ?_
      refine thenQ.normal ?_
      refine ⟨(k + 1, _), MeetsW.mkP _ ⟨rfl, trivial⟩ ⟨rfl, rfl, rfl, rfl, trivial⟩ rfl, ⟨by omega, by omega, by
        first
        | exact (show k = amin (fun i => -sumL (tr.getD i default).2.2) k by rw [amin_at _ hk1, ← hj, if_pos (show (fun i => -sumL (tr.getD i default).2.2) k < (fun i => -sumL (tr.getD i default).2.2) j from (by have h1 := cmpV_neg.1 c27; show -sumL _ < -sumL _; omega))])
        | exact (show j = amin (fun i => -sumL (tr.getD i default).2.2) k by rw [amin_at _ hk1, ← hj, if_neg (show ¬(fun i => -sumL (tr.getD i default).2.2) k < (fun i => -sumL (tr.getD i default).2.2) j from (by intro h2; exact c27 (cmpV_neg.2 (by have h3 : -sumL (tr.getD k default).2.2 < -sumL (tr.getD j default).2.2 := h2; omega))))])⟩, (show tr.length - (k + 1) < tr.length - k by omega)⟩
    · refine SX.skip ?_
      refine blockQ.normal ?_
      refine thenQ.normal ?_
      refine SX.region ?_
      refine SXL.move rfl ?_
      refine SXL.add rfl rfl (by omega) ?_
      refine SXL.assign rfl ?_
      refine SXL.nil ?_
      refine thenQ.normal ?_
      refine ⟨(k + 1, _), MeetsW.mkP _ ⟨rfl, trivial⟩ ⟨rfl, rfl, rfl, rfl, trivial⟩ rfl, ⟨by omega, by omega, by
        first
        | exact (show k = amin (fun i => -sumL (tr.getD i default).2.2) k by rw [amin_at _ hk1, ← hj, if_pos (show (fun i => -sumL (tr.getD i default).2.2) k < (fun i => -sumL (tr.getD i default).2.2) j from (by have h1 := cmpV_neg.1 c27; show -sumL _ < -sumL _; omega))])
        | exact (show j = amin (fun i => -sumL (tr.getD i default).2.2) k by rw [amin_at _ hk1, ← hj, if_neg (show ¬(fun i => -sumL (tr.getD i default).2.2) k < (fun i => -sumL (tr.getD i default).2.2) j from (by intro h2; exact c27 (cmpV_neg.2 (by have h3 : -sumL (tr.getD k default).2.2 < -sumL (tr.getD j default).2.2 := h2; omega))))])⟩, (show tr.length - (k + 1) < tr.length - k by omega)⟩
  · refine SX.exit ?_
    refine thenQ.exit ?_
    refine thenQ.exit ?_
    refine blockQ.exit ?_
    refine thenQ.normal ?_
    refine SX.seq ?_
    obtain rfl : k = tr.length := by omega
    subst hj
    refine SX.region ?_
    refine SXL.loadNo 1 sh_151 rfl rfl rfl ?_
    refine SXL.store 0 sz_151 rfl rfl rfl rfl rfl rfl ?_
    refine SXL.nil ?_
    refine thenQ.normal ?_
    refine SX.ret ?_
    refine retQ.dead [] rfl ?_
    refine retQ.one (ResAt.cellNo 0 sh_151 rfl rfl rfl) ?_
    rfl
theorem firstRich (tr : List Trt) (ao : Option Addr) (c : Nat) (hl : 0 < tr.length) (hl2 : tr.length ≤ 1000) (hsm : SmT tr) (w : World) (h : TrAt w ao tr) :
    CallsR Tryd.prog 99 [.slice ao tr.length c, .func (.func 103) ⟨[]⟩ ⟨[]⟩] w (fun v _ => v = .agg ⟨rowT (tr.getD (amin (fun i => -sumL (tr.getD i default).2.2) (tr.length - 1)) default)⟩) := by
  refine CallsR.of_SX (n := 8) (rs := [.cell 4 151]) Tryd.func99 rfl rfl rfl rfl ?_
  show SX _ _ _ ⟨[(0, .slice ao tr.length c), (1, .func (.func 103) ⟨[]⟩ ⟨[]⟩)], [], []⟩
  refine SX.seq ?_
  refine SX.region ?_
  refine SXL.alloc zp_151 ?_; intro b0
  refine SXL.nil ?_
  refine thenQ.normal ?_
  refine SX.seq ?_
  refine SX.region ?_
  refine SXL.move rfl ?_
  refine SXL.move rfl ?_
  refine SXL.call1 (.agg ⟨rowT (tr.getD (amin (fun i => -sumL (tr.getD i default).2.2) (tr.length - 1)) default)⟩) fn_127 rfl (fun w hI => minRich tr ao c hl hl2 hsm _ (h.inv hI)) ?_
  refine SXL.store 0 sz_151 rfl rfl rfl rfl rfl rfl ?_
  refine SXL.nil ?_
  refine thenQ.normal ?_
  refine SX.ret ?_
  refine retQ.dead [] rfl ?_
  refine retQ.one (ResAt.cellNo 0 sh_151 rfl rfl rfl) ?_
  rfl
set_option maxHeartbeats 2000000 in
theorem srich_any (s : Sp) (bo ro : Option Addr) (bc rc : Nat) (hb : s.book.length ≤ 1000000) (hr : s.reads.length ≤ 1000000) (w : World) (hg : Gl w) (hs : SpAt w s bo ro) :
    CallsR Tryd.prog 48 [.agg ⟨[.int .i64 s.weeks, .int .i64 s.most, .int .i64 s.fall, .int .i64 s.a0, .int .i64 s.a1, .int .i64 s.w0, .int .i64 s.w1, (.slice bo s.book.length bc), (.slice ro s.reads.length rc)]⟩] w (IsR3 (bestR s (richI s)) (bestL s 10 (richI s)) (toldE s 0)) := by
  refine CallsR.of_SX (n := 21) (rs := [.tmp 2, .tmp 3, .tmp 4]) Tryd.func48 rfl rfl rfl rfl ?_
  show SX _ _ _ ⟨[(0, .agg ⟨[.int .i64 s.weeks, .int .i64 s.most, .int .i64 s.fall, .int .i64 s.a0, .int .i64 s.a1, .int .i64 s.w0, .int .i64 s.w1, (.slice bo s.book.length bc), (.slice ro s.reads.length rc)]⟩)], [], []⟩
  refine SX.seq ?_
  refine SX.region ?_
  refine SXL.box rfl rfl ?_; intro b0
  refine SXL.assign rfl ?_
  refine SXL.assign rfl ?_
  refine SXL.assign rfl ?_
  refine SXL.nil ?_
  refine thenQ.normal ?_
  refine SX.seq ?_
  refine SX.region ?_
  refine SXL.loadNo 0 sh_27 rfl rfl rfl ?_
  refine SXL.callF (EndsR s 10) fn_97 rfl (fun w hI => ends_any s bo ro bc rc 102 10 fn_102 (by omega) hb hr w (hg.inv hI) (hs.inv hI) (fun M k w2 => (endHi _ _ w2).mono fun v own h hk => h.trans (congrArg (Value.int .i64) (by obtain ⟨y1, y2⟩ := ilv_at M hk; first | (rw [y1, Nat.zero_add]) | (rw [y2]))))) ?_; rintro _ _ ⟨q, tr, e1, e2, e3, oq, rfl, rfl⟩
  refine SXL.move rfl ?_
  refine SXL.extract rfl rfl ?_
  refine SXL.extract rfl rfl ?_
  refine SXL.assign rfl ?_
  refine SXL.assign rfl ?_
  refine SXL.nil ?_
  refine thenQ.normal ?_
  refine SX.seq ?_
  refine SX.seq ?_
  refine SX.region ?_
  refine SXL.move rfl ?_
  refine SXL.neqI rfl rfl ?_
  refine SXL.nil ?_
  refine thenQ.normal ?_
  refine SX.condP rfl (fun c13 => ?_) (fun c13 => ?_)
  · refine SX.seq ?_
    refine SX.region ?_
    refine SXL.move rfl ?_
    refine SXL.assign rfl ?_
    refine SXL.assign rfl ?_
    refine SXL.assign rfl ?_
    refine SXL.nil ?_
    refine thenQ.normal ?_
    refine SX.ret ?_
    refine thenQ.ret ?_
    refine retQ.dead [Sl.nil.ent 3 []] rfl ?_
    refine retQ.three (ResAt.tmp rfl) (ResAt.tmp rfl) (ResAt.tmp rfl) ?_
    rw [bestR, bestL, if_neg c13, if_neg c13]; exact ⟨Sl.nil, Sl.Ok.none _, rfl, rfl⟩
  · refine SX.skip ?_
    refine thenQ.normal ?_
    refine SX.seq ?_
    have hTo : toldE s 0 = 0 := Decidable.not_not.1 c13
    have htl : tr.length = (toldL s 0).length := by rw [← e1, List.length_map]
    have htp : 0 < tr.length := by rw [htl]; exact toldL_pos hTo
    have htm := toldL_max hTo
    have hsm : SmT tr := tr_small hTo (by omega) e2
    have hbl := amin_le (fun i => -sumL (tr.getD i default).2.2) (tr.length - 1)
    have hbi : (amin (fun i => -sumL (tr.getD i default).2.2) (tr.length - 1)) = richI s := by unfold richI; rw [htl]; exact amin_congr _ fun i hi => by show -sumL _ = -sumL _; rw [tr_list e2 (by omega)]
    refine SX.region ?_
    refine SXL.move rfl ?_
    refine SXL.call1 (.agg ⟨rowT (tr.getD (amin (fun i => -sumL (tr.getD i default).2.2) (tr.length - 1)) default)⟩) fn_99 rfl (fun w hI => firstRich tr q.addr q.cap htp (by omega) hsm _ ⟨Sl.rows hI (by omega) oq (i := 1) rfl (rowT_len tr), fun x hx => by obtain ⟨i, hi, rfl⟩ := List.getElem_of_mem hx; exact slOnes hI (e3 _ hx) (i := 2 + i) ((cons2_get _ _ (tr.map entT) i).trans (by rw [List.getElem?_map, List.getElem?_eq_getElem hi]; rfl))⟩) ?_
    refine SXL.alloc zp_151 ?_; intro b2
    refine SXL.insN 2 ?_
    refine SXL.store 2 sz_151 rfl rfl rfl rfl rfl rfl ?_
    refine SXL.nil ?_
    refine thenQ.normal ?_
    refine SX.seq ?_
    refine SX.draw 7 (by kernel_rfl) (by kernel_rfl) {} ?_
    refine SXA.take 0 7 rfl (by kernel_rfl) rfl ?_
    refine SXL.fieldAddr fp_151_0 rfl ?_
    refine SXL.load1o 2 sh_3 rfl rfl rfl ?_
    refine SXL.fieldAddr fp_151_1 rfl ?_
    refine SXL.load1o 2 sh_35 rfl rfl rfl ?_
    refine SXL.assign rfl ?_
    refine SXL.assign rfl ?_
    refine SXL.assign rfl ?_
    refine SXL.nil ⟨rfl, rfl, rfl, ?_⟩
    refine SXA.done (by kernel_rfl) ?_
    refine SXL.nil ?_
    refine thenQ.normal ?_
    refine SX.ret ?_
    refine retQ.selS (Sel.at (i := 3 + (amin (fun i => -sumL (tr.getD i default).2.2) (tr.length - 1))) (x := entT (tr.getD (amin (fun i => -sumL (tr.getD i default).2.2) (tr.length - 1)) default)) ((cons3_get _ _ _ (tr.map entT) (amin (fun i => -sumL (tr.getD i default).2.2) (tr.length - 1))).trans (tr_ent (show (amin (fun i => -sumL (tr.getD i default).2.2) (tr.length - 1)) < tr.length by omega)))) ?_
    refine retQ.three (ResAt.tmp rfl) (ResAt.tmp rfl) (ResAt.tmp rfl) ?_
    have hok := e3 _ (tr_get (show (amin (fun i => -sumL (tr.getD i default).2.2) (tr.length - 1)) < tr.length by omega))
    have hlst := tr_list e2 (show (amin (fun i => -sumL (tr.getD i default).2.2) (tr.length - 1)) < tr.length by omega)
    have hrn := tr_rain e1 (show (amin (fun i => -sumL (tr.getD i default).2.2) (tr.length - 1)) < tr.length by omega)
    rw [hTo, bestR, bestL, if_pos hTo, if_pos hTo, ← hbi, ← hlst, ← hrn]
    exact ⟨_, hok, rfl, rfl⟩
end Go.Proofs.YtknflipongbngaaDoor

/- The walks of functions. -/
namespace Go.Proofs.YtknflipongbngaaDoor
open Go.X Go.S
theorem sameInts_any (l m : List Int) (lo mo : Option Addr) (lc mc : Nat) (hmx : l.length ≤ 1000000) (w : World) (h1 : RowsAt w lo 1 (ones l)) (h2 : RowsAt w mo 1 (ones m)) :
    CallsR Tryd.prog 28 [.slice lo l.length lc, .slice mo m.length mc] w (fun v _ => v = .bool (decide (l = m))) := by
  refine CallsR.of_SX (n := 26) (rs := [.tmp 4]) Tryd.func28 rfl rfl rfl rfl ?_
  show SX _ _ _ ⟨[(0, .slice lo l.length lc), (1, .slice mo m.length mc)], [], []⟩
  refine SX.seq ?_
  refine SX.region ?_
  refine SXL.assign rfl ?_
  refine SXL.nil ?_
  refine thenQ.normal ?_
  refine SX.seq ?_
  refine SX.seq ?_
  refine SX.region ?_
  refine SXL.move rfl ?_
  refine SXL.len is_35 rfl ?_
  refine SXL.move rfl ?_
  refine SXL.len is_35 rfl ?_
  refine SXL.neqI rfl rfl ?_
  refine SXL.nil ?_
  refine thenQ.normal ?_
  refine SX.condP rfl (fun c10 => ?_) (fun c10 => ?_)
  · refine SX.seq ?_
    refine SX.region ?_
    refine SXL.assign rfl ?_
    refine SXL.nil ?_
    refine thenQ.normal ?_
    refine SX.ret ?_
    refine thenQ.ret ?_
    refine retQ.one (ResAt.tmp rfl) ?_
    exact congrArg Value.bool (decide_eq_false (by intro h; subst h; omega)).symm
  · refine SX.skip ?_
    refine thenQ.normal ?_
    refine SX.seq ?_
    refine SX.seq ?_
    refine SX.region ?_
    refine SXL.assign rfl ?_
    refine SXL.nil ?_
    refine thenQ.normal ?_
    refine SX.block ?_
    refine SX.loopG (α := Nat) [0, 1, 4] rfl (fun k => [(5, .int .i64 ((k : Int)))]) (fun k => []) (fun k => k ≤ l.length ∧ ∀ i, i < k → l.getD i 0 = m.getD i 0) (fun k => l.length - k) 0 ⟨Nat.zero_le _, fun _ h => absurd h (Nat.not_lt_zero _)⟩ ⟨rfl, trivial⟩ rfl ?_
    rintro k ⟨hk, hall⟩
    refine SX.seq ?_
    refine SX.seq ?_
    refine SX.region ?_
    refine SXL.move rfl ?_
    refine SXL.move rfl ?_
    refine SXL.len is_35 rfl ?_
    refine SXL.lss rfl rfl ?_
    refine SXL.nil ?_
    refine thenQ.normal ?_
    refine SX.condP rfl (fun c14 => ?_) (fun c14 => ?_)
    · refine SX.skip ?_
      refine thenQ.normal ?_
      refine SX.seq ?_
      refine SX.block ?_
      refine SX.seq ?_
      obtain ⟨b, o, ha, hm⟩ := oneI h1 (i := k) (by omega)
      obtain ⟨b2, o2, ha2, hm2⟩ := oneI h2 (i := k) (by omega)
      refine SX.draw 9 (by kernel_rfl) (by kernel_rfl) {} ?_
      refine SXA.take 0 9 rfl (by kernel_rfl) rfl ?_
      refine SXL.move rfl ?_
      refine SXL.move rfl ?_
      refine SXL.indexR el_35 rfl rfl ha (by omega) ?_
      refine SXL.load1 sh_3 rfl (hm _) ?_
      refine SXL.move rfl ?_
      refine SXL.move rfl ?_
      refine SXL.indexR el_35 rfl rfl ha2 (by omega) ?_
      refine SXL.load1 sh_3 rfl (hm2 _) ?_
      refine SXL.neqI rfl rfl ?_
      refine SXL.nil ⟨rfl, rfl, rfl, ?_⟩
      refine SXA.done (by kernel_rfl) ?_
      refine SXL.nil ?_
      refine thenQ.normal ?_
      refine SX.condP rfl (fun c25 => ?_) (fun c25 => ?_)
      · refine SX.seq ?_
        refine SX.region ?_
        refine SXL.assign rfl ?_
        refine SXL.nil ?_
        refine thenQ.normal ?_
        refine SX.ret ?_
        refine blockQ.ret ?_
        refine thenQ.ret ?_
        refine thenQ.ret ?_
        refine blockQ.ret ?_
        refine thenQ.ret ?_
        refine retQ.one (ResAt.tmp rfl) ?_
        exact congrArg Value.bool (decide_eq_false (by intro h; subst h; exact c25 rfl)).symm
      · refine SX.skip ?_
        refine blockQ.normal ?_
        refine thenQ.normal ?_
        refine SX.region ?_
        refine SXL.move rfl ?_
        refine SXL.add rfl rfl (by omega) ?_
        refine SXL.assign rfl ?_
        refine SXL.nil ?_
        refine thenQ.normal ?_
        refine ⟨k + 1, Meets.mk _ ⟨rfl, trivial⟩ ⟨rfl, rfl, rfl, trivial⟩ rfl, ?_, (by omega)⟩
        refine ⟨by omega, fun i hi => ?_⟩
        by_cases e : i = k
        · subst e; exact Decidable.not_not.1 c25
        · exact hall i (by omega)
    · refine SX.exit ?_
      refine thenQ.exit ?_
      refine thenQ.exit ?_
      refine blockQ.exit ?_
      refine thenQ.normal ?_
      refine SX.seq ?_
      refine SX.region ?_
      refine SXL.assign rfl ?_
      refine SXL.nil ?_
      refine thenQ.normal ?_
      refine SX.ret ?_
      refine retQ.one (ResAt.tmp rfl) ?_
      exact congrArg Value.bool (decide_eq_true (List.ext_getElem (by omega) (fun i h3 h4 => by have := hall i (by omega); simpa [h3, h4] using this))).symm
theorem same_any (x y : Sp) (xb xr yb yr : Option Addr) (xbc xrc ybc yrc : Nat) (hm1 : x.book.length ≤ 1000000) (hm2 : x.reads.length ≤ 1000000) (w : World) (hx : SpAt w x xb xr) (hy : SpAt w y yb yr) :
    CallsR Tryd.prog 29 [.agg ⟨[.int .i64 x.weeks, .int .i64 x.most, .int .i64 x.fall, .int .i64 x.a0, .int .i64 x.a1, .int .i64 x.w0, .int .i64 x.w1, (.slice xb x.book.length xbc), (.slice xr x.reads.length xrc)]⟩, .agg ⟨[.int .i64 y.weeks, .int .i64 y.most, .int .i64 y.fall, .int .i64 y.a0, .int .i64 y.a1, .int .i64 y.w0, .int .i64 y.w1, (.slice yb y.book.length ybc), (.slice yr y.reads.length yrc)]⟩] w (fun v _ => v = .bool (decide (x = y))) := by
  refine CallsR.of_SX (n := 94) (rs := [.tmp 4]) Tryd.func29 rfl rfl rfl rfl ?_
  show SX _ _ _ ⟨[(0, .agg ⟨[.int .i64 x.weeks, .int .i64 x.most, .int .i64 x.fall, .int .i64 x.a0, .int .i64 x.a1, .int .i64 x.w0, .int .i64 x.w1, (.slice xb x.book.length xbc), (.slice xr x.reads.length xrc)]⟩), (1, .agg ⟨[.int .i64 y.weeks, .int .i64 y.most, .int .i64 y.fall, .int .i64 y.a0, .int .i64 y.a1, .int .i64 y.w0, .int .i64 y.w1, (.slice yb y.book.length ybc), (.slice yr y.reads.length yrc)]⟩)], [], []⟩
  refine SX.seq ?_
  refine SX.region ?_
  refine SXL.box rfl rfl ?_; intro b0
  refine SXL.box rfl rfl ?_; intro b1
  refine SXL.assign rfl ?_
  refine SXL.nil ?_
  refine thenQ.normal ?_
  refine SX.seq ?_
  refine SX.seq ?_
  refine SX.region ?_
  refine SXL.fieldAddr fp_27_0 rfl ?_
  refine SXL.load1o 0 sh_3 rfl rfl rfl ?_
  refine SXL.fieldAddr fp_27_0 rfl ?_
  refine SXL.load1o 1 sh_3 rfl rfl rfl ?_
  refine SXL.neqI rfl rfl ?_
  refine SXL.move rfl ?_
  apply SXL.orG 5
  case hl => exact rfl
  case hd => exact rfl
  case hg => exact rfl
  case ht =>
    intro g1
    refine SXL.pass rfl rfl rfl ?_
    refine SXL.pass rfl rfl rfl ?_
    refine SXL.pass rfl rfl rfl ?_
    refine SXL.pass rfl rfl rfl ?_
    refine SXL.pass rfl rfl rfl ?_
    exact SXL.nil (segQ.mk (.skip rfl (.skip rfl (.skip rfl (.skip rfl (.skip rfl (.skip rfl (EnvSub.refl _))))))) rfl rfl rfl)
  case hf =>
    intro g1
    refine SXL.fieldAddr fp_27_1 rfl ?_
    refine SXL.load1o 0 sh_3 rfl rfl rfl ?_
    refine SXL.fieldAddr fp_27_1 rfl ?_
    refine SXL.load1o 1 sh_3 rfl rfl rfl ?_
    refine SXL.neqI rfl rfl ?_
    exact SXL.nil (segQ.mk (.skip rfl (.skip rfl (.skip rfl (.skip rfl (.skip rfl (.skip rfl (EnvSub.refl _))))))) rfl rfl ⟨rfl, rfl⟩)
  refine SXL.move rfl ?_
  apply SXL.orG 5
  case hl => exact rfl
  case hd => exact rfl
  case hg => exact rfl
  case ht =>
    intro g2
    refine SXL.pass rfl rfl rfl ?_
    refine SXL.pass rfl rfl rfl ?_
    refine SXL.pass rfl rfl rfl ?_
    refine SXL.pass rfl rfl rfl ?_
    refine SXL.pass rfl rfl rfl ?_
    exact SXL.nil (segQ.mk (.skip rfl (.skip rfl (.skip rfl (.skip rfl (.skip rfl (.skip rfl (EnvSub.refl _))))))) rfl rfl rfl)
  case hf =>
    intro g2
    refine SXL.fieldAddr fp_27_2 rfl ?_
    refine SXL.load1o 0 sh_3 rfl rfl rfl ?_
    refine SXL.fieldAddr fp_27_2 rfl ?_
    refine SXL.load1o 1 sh_3 rfl rfl rfl ?_
    refine SXL.neqI rfl rfl ?_
    exact SXL.nil (segQ.mk (.skip rfl (.skip rfl (.skip rfl (.skip rfl (.skip rfl (.skip rfl (EnvSub.refl _))))))) rfl rfl ⟨rfl, rfl⟩)
  refine SXL.move rfl ?_
  apply SXL.orG 5
  case hl => exact rfl
  case hd => exact rfl
  case hg => exact rfl
  case ht =>
    intro g3
    refine SXL.pass rfl rfl rfl ?_
    refine SXL.pass rfl rfl rfl ?_
    refine SXL.pass rfl rfl rfl ?_
    refine SXL.pass rfl rfl rfl ?_
    refine SXL.pass rfl rfl rfl ?_
    exact SXL.nil (segQ.mk (.skip rfl (.skip rfl (.skip rfl (.skip rfl (.skip rfl (.skip rfl (EnvSub.refl _))))))) rfl rfl rfl)
  case hf =>
    intro g3
    refine SXL.fieldAddr fp_27_3 rfl ?_
    refine SXL.loadNo 0 sh_23 rfl rfl rfl ?_
    refine SXL.fieldAddr fp_27_3 rfl ?_
    refine SXL.loadNo 1 sh_23 rfl rfl rfl ?_
    refine SXL.neqV (p := [x.a0, x.a1] ≠ [y.a0, y.a1]) (u := .agg ⟨ints ([x.a0, x.a1])⟩) (v := .agg ⟨ints ([y.a0, y.a1])⟩) rfl rfl (run_neq_ints eq_23 eg_23 sh_23 rfl rfl) ?_
    exact SXL.nil (segQ.mk (.skip rfl (.skip rfl (.skip rfl (.skip rfl (.skip rfl (.skip rfl (EnvSub.refl _))))))) rfl rfl ⟨rfl, rfl⟩)
  refine SXL.move rfl ?_
  apply SXL.orG 5
  case hl => exact rfl
  case hd => exact rfl
  case hg => exact rfl
  case ht =>
    intro g4
    refine SXL.pass rfl rfl rfl ?_
    refine SXL.pass rfl rfl rfl ?_
    refine SXL.pass rfl rfl rfl ?_
    refine SXL.pass rfl rfl rfl ?_
    refine SXL.pass rfl rfl rfl ?_
    exact SXL.nil (segQ.mk (.skip rfl (.skip rfl (.skip rfl (.skip rfl (.skip rfl (.skip rfl (EnvSub.refl _))))))) rfl rfl rfl)
  case hf =>
    intro g4
    refine SXL.fieldAddr fp_27_4 rfl ?_
    refine SXL.loadNo 0 sh_23 rfl rfl rfl ?_
    refine SXL.fieldAddr fp_27_4 rfl ?_
    refine SXL.loadNo 1 sh_23 rfl rfl rfl ?_
    refine SXL.neqV (p := [x.w0, x.w1] ≠ [y.w0, y.w1]) (u := .agg ⟨ints ([x.w0, x.w1])⟩) (v := .agg ⟨ints ([y.w0, y.w1])⟩) rfl rfl (run_neq_ints eq_23 eg_23 sh_23 rfl rfl) ?_
    exact SXL.nil (segQ.mk (.skip rfl (.skip rfl (.skip rfl (.skip rfl (.skip rfl (.skip rfl (EnvSub.refl _))))))) rfl rfl ⟨rfl, rfl⟩)
  refine SXL.move rfl ?_
  apply SXL.orG 7
  case hl => exact rfl
  case hd => exact rfl
  case hg => exact rfl
  case ht =>
    intro g5
    refine SXL.pass rfl rfl rfl ?_
    refine SXL.pass rfl rfl rfl ?_
    refine SXL.pass rfl rfl rfl ?_
    refine SXL.pass rfl rfl rfl ?_
    refine SXL.pass rfl rfl rfl ?_
    refine SXL.pass rfl rfl rfl ?_
    refine SXL.pass rfl rfl rfl ?_
    exact SXL.nil (segQ.mk (.skip rfl (.skip rfl (.skip rfl (.skip rfl (.skip rfl (.skip rfl (.skip rfl (.skip rfl (EnvSub.refl _))))))))) rfl rfl rfl)
  case hf =>
    intro g5
    refine SXL.fieldAddr fp_27_5 rfl ?_
    refine SXL.load1o 0 sh_24 rfl rfl rfl ?_
    refine SXL.len is_24 rfl ?_
    refine SXL.fieldAddr fp_27_5 rfl ?_
    refine SXL.load1o 1 sh_24 rfl rfl rfl ?_
    refine SXL.len is_24 rfl ?_
    refine SXL.neqI rfl rfl ?_
    exact SXL.nil (segQ.mk (.skip rfl (.skip rfl (.skip rfl (.skip rfl (.skip rfl (.skip rfl (.skip rfl (.skip rfl (EnvSub.refl _))))))))) rfl rfl ⟨rfl, rfl⟩)
  refine SXL.move rfl ?_
  apply SXL.orG 7
  case hl => exact rfl
  case hd => exact rfl
  case hg => exact rfl
  case ht =>
    intro c57
    refine SXL.pass rfl rfl rfl ?_
    refine SXL.pass rfl rfl rfl ?_
    refine SXL.pass rfl rfl rfl ?_
    refine SXL.pass rfl rfl rfl ?_
    refine SXL.pass rfl rfl rfl ?_
    refine SXL.pass rfl rfl rfl ?_
    refine SXL.pass rfl rfl rfl ?_
    exact SXL.nil (segQ.mk (.skip rfl (.skip rfl (.skip rfl (.skip rfl (.skip rfl (.skip rfl (.skip rfl (.skip rfl (EnvSub.refl _))))))))) rfl rfl rfl)
  case hf =>
    intro c57
    refine SXL.fieldAddr fp_27_6 rfl ?_
    refine SXL.load1o 0 sh_25 rfl rfl rfl ?_
    refine SXL.len is_25 rfl ?_
    refine SXL.fieldAddr fp_27_6 rfl ?_
    refine SXL.load1o 1 sh_25 rfl rfl rfl ?_
    refine SXL.len is_25 rfl ?_
    refine SXL.neqI rfl rfl ?_
    exact SXL.nil (segQ.mk (.skip rfl (.skip rfl (.skip rfl (.skip rfl (.skip rfl (.skip rfl (.skip rfl (.skip rfl (EnvSub.refl _))))))))) rfl rfl ⟨rfl, rfl⟩)
  refine SXL.nil ?_
  refine thenQ.normal ?_
  refine SX.condP rfl (fun c57 => ?_) (fun c57 => ?_)
  · refine SX.seq ?_
    refine SX.region ?_
    refine SXL.assign rfl ?_
    refine SXL.nil ?_
    refine thenQ.normal ?_
    refine SX.ret ?_
    refine thenQ.ret ?_
    refine retQ.one (ResAt.tmp rfl) ?_
    exact congrArg Value.bool (decide_eq_false (by intro h; subst h; simp at c57)).symm
  · refine SX.skip ?_
    refine thenQ.normal ?_
    refine SX.seq ?_
    refine SX.seq ?_
    refine SX.region ?_
    refine SXL.assign rfl ?_
    refine SXL.nil ?_
    refine thenQ.normal ?_
    refine SX.block ?_
    refine SX.loopG (α := Nat) [2, 3, 4] rfl (fun k => [(5, .int .i64 ((k : Int)))]) (fun k => []) (fun k => k ≤ x.book.length ∧ ∀ i, i < k → x.book.getD i default = y.book.getD i default) (fun k => x.book.length - k) 0 ⟨Nat.zero_le _, fun _ h => absurd h (Nat.not_lt_zero _)⟩ ⟨rfl, trivial⟩ rfl ?_
    rintro k ⟨hk, hall⟩
    refine SX.seq ?_
    refine SX.seq ?_
    refine SX.region ?_
    refine SXL.move rfl ?_
    refine SXL.fieldAddr fp_27_5 rfl ?_
    refine SXL.load1o 0 sh_24 rfl rfl rfl ?_
    refine SXL.len is_24 rfl ?_
    refine SXL.lss rfl rfl ?_
    refine SXL.nil ?_
    refine thenQ.normal ?_
    refine SX.condP rfl (fun c62 => ?_) (fun c62 => ?_)
    · refine SX.skip ?_
      refine thenQ.normal ?_
      refine SX.seq ?_
      refine SX.block ?_
      refine SX.seq ?_
      obtain ⟨b, o, ha, hm⟩ := hx.lineD (i := k) (by omega)
      obtain ⟨b2, o2, ha2, hn⟩ := hy.lineD (i := k) (by omega)
      refine SX.draw 11 (by kernel_rfl) (by kernel_rfl) {} ?_
      refine SXA.take 0 11 rfl (by kernel_rfl) rfl ?_
      refine SXL.fieldAddr fp_27_5 rfl ?_
      refine SXL.load1o 0 sh_24 rfl rfl rfl ?_
      refine SXL.move rfl ?_
      refine SXL.indexR el_24 rfl rfl ha (by omega) ?_
      refine SXL.loadN sh_61 rfl (hm _) rfl ?_
      refine SXL.fieldAddr fp_27_5 rfl ?_
      refine SXL.load1o 1 sh_24 rfl rfl rfl ?_
      refine SXL.move rfl ?_
      refine SXL.indexR el_24 rfl rfl ha2 (by omega) ?_
      refine SXL.loadN sh_61 rfl (hn _) rfl ?_
      refine SXL.neqV (p := (x.book.getD k default).ints ≠ (y.book.getD k default).ints) (u := .agg ⟨ints ((x.book.getD k default).ints)⟩) (v := .agg ⟨ints ((y.book.getD k default).ints)⟩) rfl rfl (run_neq_ints eq_61 eg_61 sh_61 rfl rfl) ?_
      refine SXL.nil ⟨rfl, rfl, rfl, ?_⟩
      refine SXA.done (by kernel_rfl) ?_
      refine SXL.nil ?_
      refine thenQ.normal ?_
      refine SX.condP rfl (fun c75 => ?_) (fun c75 => ?_)
      · refine SX.seq ?_
        refine SX.region ?_
        refine SXL.assign rfl ?_
        refine SXL.nil ?_
        refine thenQ.normal ?_
        refine SX.ret ?_
        refine blockQ.ret ?_
        refine thenQ.ret ?_
        refine thenQ.ret ?_
        refine blockQ.ret ?_
        refine thenQ.ret ?_
        refine retQ.one (ResAt.tmp rfl) ?_
        exact congrArg Value.bool (decide_eq_false (by intro h; subst h; exact c75 rfl)).symm
      · refine SX.skip ?_
        refine blockQ.normal ?_
        refine thenQ.normal ?_
        refine SX.region ?_
        refine SXL.move rfl ?_
        refine SXL.add rfl rfl (by omega) ?_
        refine SXL.assign rfl ?_
        refine SXL.nil ?_
        refine thenQ.normal ?_
        refine ⟨k + 1, Meets.mk _ ⟨rfl, trivial⟩ ⟨rfl, rfl, rfl, trivial⟩ rfl, ?_, (by omega)⟩
        refine ⟨by omega, fun i hi => ?_⟩
        by_cases e : i = k
        · subst e; exact Ln.ints_inj.1 (Decidable.not_not.1 c75)
        · exact hall i (by omega)
    · refine SX.exit ?_
      refine thenQ.exit ?_
      refine thenQ.exit ?_
      refine blockQ.exit ?_
      refine thenQ.normal ?_
      refine SX.seq ?_
      refine SX.seq ?_
      refine SX.region ?_
      refine SXL.assign rfl ?_
      refine SXL.nil ?_
      refine thenQ.normal ?_
      refine SX.block ?_
      refine SX.loopG (α := Nat) [2, 3, 4] rfl (fun k => [(6, .int .i64 ((k : Int)))]) (fun k => []) (fun k => k ≤ x.reads.length ∧ ∀ i, i < k → x.reads.getD i default = y.reads.getD i default) (fun k => x.reads.length - k) 0 ⟨Nat.zero_le _, fun _ h => absurd h (Nat.not_lt_zero _)⟩ ⟨rfl, trivial⟩ rfl ?_
      rintro k ⟨hk2, hall2⟩
      refine SX.seq ?_
      refine SX.seq ?_
      refine SX.region ?_
      refine SXL.move rfl ?_
      refine SXL.fieldAddr fp_27_6 rfl ?_
      refine SXL.load1o 0 sh_25 rfl rfl rfl ?_
      refine SXL.len is_25 rfl ?_
      refine SXL.lss rfl rfl ?_
      refine SXL.nil ?_
      refine thenQ.normal ?_
      refine SX.condP rfl (fun c80 => ?_) (fun c80 => ?_)
      · refine SX.skip ?_
        refine thenQ.normal ?_
        refine SX.seq ?_
        refine SX.block ?_
        refine SX.seq ?_
        obtain ⟨b, o, ha, hm⟩ := hx.readD (i := k) (by omega)
        obtain ⟨b2, o2, ha2, hn⟩ := hy.readD (i := k) (by omega)
        refine SX.draw 11 (by kernel_rfl) (by kernel_rfl) {} ?_
        refine SXA.take 0 11 rfl (by kernel_rfl) rfl ?_
        refine SXL.fieldAddr fp_27_6 rfl ?_
        refine SXL.load1o 0 sh_25 rfl rfl rfl ?_
        refine SXL.move rfl ?_
        refine SXL.indexR el_25 rfl rfl ha (by omega) ?_
        refine SXL.loadN sh_54 rfl (hm _) rfl ?_
        refine SXL.fieldAddr fp_27_6 rfl ?_
        refine SXL.load1o 1 sh_25 rfl rfl rfl ?_
        refine SXL.move rfl ?_
        refine SXL.indexR el_25 rfl rfl ha2 (by omega) ?_
        refine SXL.loadN sh_54 rfl (hn _) rfl ?_
        refine SXL.neqV (p := (x.reads.getD k default).ints ≠ (y.reads.getD k default).ints) (u := .agg ⟨ints ((x.reads.getD k default).ints)⟩) (v := .agg ⟨ints ((y.reads.getD k default).ints)⟩) rfl rfl (run_neq_ints eq_54 eg_54 sh_54 rfl rfl) ?_
        refine SXL.nil ⟨rfl, rfl, rfl, ?_⟩
        refine SXA.done (by kernel_rfl) ?_
        refine SXL.nil ?_
        refine thenQ.normal ?_
        refine SX.condP rfl (fun c93 => ?_) (fun c93 => ?_)
        · refine SX.seq ?_
          refine SX.region ?_
          refine SXL.assign rfl ?_
          refine SXL.nil ?_
          refine thenQ.normal ?_
          refine SX.ret ?_
          refine blockQ.ret ?_
          refine thenQ.ret ?_
          refine thenQ.ret ?_
          refine blockQ.ret ?_
          refine thenQ.ret ?_
          refine retQ.one (ResAt.tmp rfl) ?_
          exact congrArg Value.bool (decide_eq_false (by intro h; subst h; exact c93 rfl)).symm
        · refine SX.skip ?_
          refine blockQ.normal ?_
          refine thenQ.normal ?_
          refine SX.region ?_
          refine SXL.move rfl ?_
          refine SXL.add rfl rfl (by omega) ?_
          refine SXL.assign rfl ?_
          refine SXL.nil ?_
          refine thenQ.normal ?_
          refine ⟨k + 1, Meets.mk _ ⟨rfl, trivial⟩ ⟨rfl, rfl, rfl, trivial⟩ rfl, ?_, (by omega)⟩
          refine ⟨by omega, fun i hi => ?_⟩
          by_cases e : i = k
          · subst e; exact Rd.ints_inj.1 (Decidable.not_not.1 c93)
          · exact hall2 i (by omega)
      · refine SX.exit ?_
        refine thenQ.exit ?_
        refine thenQ.exit ?_
        refine blockQ.exit ?_
        refine thenQ.normal ?_
        refine SX.seq ?_
        refine SX.region ?_
        refine SXL.assign rfl ?_
        refine SXL.nil ?_
        refine thenQ.normal ?_
        refine SX.ret ?_
        refine retQ.one (ResAt.tmp rfl) ?_
        exact congrArg Value.bool (decide_eq_true (sp_ext (by simp at c57; omega) (fun i hi => hall i (by omega)) (fun i hi => hall2 i (by omega)))).symm
end Go.Proofs.YtknflipongbngaaDoor
