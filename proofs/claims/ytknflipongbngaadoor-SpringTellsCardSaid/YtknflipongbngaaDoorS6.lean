/- The walks of functions. -/
import Derived.Test.YtknflipongbngaaDoorFacts
import Derived.Test.YtknflipongbngaaDoorS5
namespace Go.Proofs.YtknflipongbngaaDoor
open Go.X Go.S Go.RowKit
set_option maxHeartbeats 4000000 in
theorem sgives_any (s : Sp) (bo ro : Option Addr) (bc rc : Nat) (week : Int) (hb : s.book.length ≤ 1000000) (hr : s.reads.length ≤ 1000000) (w : World) (hg : Gl w) (hs : SpAt w s bo ro) :
    CallsR Tryd.prog 22 [.agg ⟨[.int .i64 s.weeks, .int .i64 s.most, .int .i64 s.fall, .int .i64 s.a0, .int .i64 s.a1, .int .i64 s.w0, .int .i64 s.w1, (.slice bo s.book.length bc), (.slice ro s.reads.length rc)]⟩, .int .i64 week] w (fun v _ => v = .tuple ⟨[.agg ⟨[.int .i64 ((givesLo s week)), .int .i64 ((givesHi s week))]⟩, .int .i64 (toldE s week)]⟩) := by
  have hp : SpP s → (Wi week 0 (IntKind.i64.wrap (s.weeks - 1)) ↔ Wi week 0 (s.weeks - 1)) := fun hv => by
    have hH := hv.1; unfold HeadP at hH; rw [wrap_in (by omega)]
  have hA : askE s (Wi week 0 (IntKind.i64.wrap (s.weeks - 1))) 11 = toldE s week := askE_told hp
  refine CallsR.of_SX (n := 28) (rs := [.cell 4 23, .tmp 5]) Tryd.func22 rfl rfl rfl rfl ?_
  show SX _ _ _ ⟨[(0, .agg ⟨[.int .i64 s.weeks, .int .i64 s.most, .int .i64 s.fall, .int .i64 s.a0, .int .i64 s.a1, .int .i64 s.w0, .int .i64 s.w1, (.slice bo s.book.length bc), (.slice ro s.reads.length rc)]⟩), (1, .int .i64 week)], [], []⟩
  refine SX.seq ?_
  refine SX.region ?_
  refine SXL.box rfl rfl ?_; intro b0
  refine SXL.alloc zp_23 ?_; intro b1
  refine SXL.assign rfl ?_
  refine SXL.nil ?_
  refine thenQ.normal ?_
  refine SX.seq ?_
  refine SX.draw 17 (by kernel_rfl) (by kernel_rfl) ⟨[10, 11, 15, 16], [true, true, false, false, false]⟩ ?_
  refine SXA.take 0 5 rfl (by kernel_rfl) rfl ?_
  refine SXL.loadNo 0 sh_27 rfl rfl rfl ?_
  refine SXL.fieldAddr fp_27_0 rfl ?_
  refine SXL.load1o 0 sh_3 rfl rfl rfl ?_
  refine SXL.subW rfl rfl ?_
  refine SXL.move rfl ?_
  refine SXL.nil ⟨rfl, rfl, rfl, ?_⟩
  refine SXA.all [5, 12, 13] (by kernel_rfl) rfl ⟨⟨?_, rfl⟩, ⟨?_, rfl⟩, ⟨?_, rfl⟩, trivial⟩
  · refine (show SXL _ _ [_] _ _ from ?_)
    refine SXL.buildSlice et_35 zp_3 rfl rfl rfl rfl ?_; intro b2
    refine SXL.nil (stepQ.mk _ rfl rfl ?_)
    refine SXA.take 6 1 rfl (by kernel_rfl) rfl ?_
    refine SXL.call1 (.bool (decide (Wi week 0 (IntKind.i64.wrap (s.weeks - 1))))) fn_78 rfl (fun w hI => in1_own hI 2 week 0 (IntKind.i64.wrap (s.weeks - 1)) rfl) ?_
    refine SXL.nil ⟨rfl, rfl, rfl, ?_⟩
    refine SXA.all [7, 12, 13] (by kernel_rfl) rfl ⟨⟨?_, rfl⟩, ⟨?_, rfl⟩, ⟨?_, rfl⟩, trivial⟩
    · refine (show SXL _ _ [_] _ _ from ?_)
      refine SXL.callP (AskR s bo ro bc rc (Wi week 0 (IntKind.i64.wrap (s.weeks - 1))) 11) fn_75 rfl (fun w hI => asked_any s bo ro bc rc (Wi week 0 (IntKind.i64.wrap (s.weeks - 1))) 11 hb hr w (hg.inv hI) (hs.inv hI)) ?_; rintro _ ⟨W, O, hW1, hW2, hO, rfl, hok⟩
      refine SXL.nil (stepQ.mk _ rfl rfl ?_)
      refine SXA.take 8 2 rfl (by kernel_rfl) rfl ?_
      refine SXL.move rfl ?_
      refine SXL.extract rfl rfl ?_
      refine SXL.nil ⟨rfl, rfl, rfl, ?_⟩
      refine SXA.takeM 10 2 rfl (by kernel_rfl) rfl ?_
      refine SXL.extract rfl rfl ?_
      refine SXL.extract rfl rfl ?_
      refine SXL.nil ⟨rfl, rfl, rfl, ?_⟩
      refine SXA.all [12, 13] (by kernel_rfl) rfl ⟨⟨?_, rfl⟩, ⟨?_, rfl⟩, trivial⟩
      · refine (show SXL _ _ [_] _ _ from ?_)
        refine SXL.alloc zp_117 ?_; intro b3
        refine SXL.nil (stepQ.mk _ rfl rfl ?_)
        refine SXA.all [13] (by kernel_rfl) rfl ⟨⟨?_, rfl⟩, trivial⟩
        refine (show SXL _ _ [_] _ _ from ?_)
        refine SXL.alloc zp_114 ?_; intro b4
        refine SXL.nil (stepQ.mk _ rfl rfl ?_)
        refine SXA.all [14] (by kernel_rfl) rfl ⟨⟨?_, rfl⟩, trivial⟩
        refine (show SXL _ _ [_] _ _ from ?_)
        refine SXL.store 3 sz_117 rfl rfl rfl rfl hW1 (putAt_all _ _ (by simp [hW1])) ?_ hW2
        refine SXL.nil (stepQ.mkL _ (by kernel_rfl) rfl rfl ?_)
        refine SXA.all [15] (by kernel_rfl) rfl ⟨⟨?_, rfl⟩, trivial⟩
        refine (show SXL _ _ [_] _ _ from ?_)
        refine SXL.store 4 sz_114 rfl rfl rfl rfl (by simp [hO]) (putAt_all _ _ (by simp [hO])) ?_ (ints_isOne _)
        refine SXL.nil (stepQ.mkL _ (by kernel_rfl) rfl rfl ?_)
        refine SXA.takeM 16 1 rfl (by kernel_rfl) rfl ?_
        refine SXL.assign rfl ?_
        refine SXL.nil ⟨rfl, rfl, rfl, ?_⟩
        refine SXA.done (by kernel_rfl) ?_
        refine SXL.nil ?_
        refine thenQ.normal ?_
        refine SX.seq ?_
        refine SX.seq ?_
        refine SX.region ?_
        refine SXL.move rfl ?_
        refine SXL.neqI rfl rfl ?_
        refine SXL.nil ?_
        refine thenQ.normal ?_
        refine SX.condP rfl (fun c22 => ?_) (fun c22 => ?_)
        · refine SX.seq ?_
          refine SX.region ?_
          refine SXL.buildS pl_23 zp_23 rfl rfl ?_
          refine SXL.move rfl ?_
          refine SXL.store 1 sz_23 rfl rfl rfl rfl rfl rfl ?_
          refine SXL.assign rfl ?_
          refine SXL.nil ?_
          refine thenQ.normal ?_
          refine SX.ret ?_
          refine thenQ.ret ?_
          refine retQ.two (ResAt.cellNo 1 sh_23 rfl rfl rfl) (ResAt.tmp rfl) ?_
          rw [givesLo, givesHi, ← hA, if_neg c22, if_neg c22]
        · refine SX.skip ?_
          refine thenQ.normal ?_
          refine SX.seq ?_
          have hc22 := Decidable.not_not.1 c22
          obtain ⟨hv, hwk, ht⟩ := toldE_valid (hA ▸ hc22)
          obtain ⟨rfl, rfl⟩ := hok hv ((hp hv).2 hwk) ht
          obtain ⟨g1, g2⟩ := outA_at (hA ▸ hc22)
          have hH := hv.1
          unfold HeadP at hH
          refine SX.region ?_
          refine SXL.move rfl ?_
          refine SXL.indexA el_114 rfl rfl (by omega) ?_
          refine SXL.loadNo 4 sh_23 rfl rfl (ints_take2' (M := outA s) (i := week.toNat) (by omega) (by rw [hO]; omega)) ?_
          refine SXL.store 1 sz_23 rfl rfl rfl rfl rfl rfl ?_
          refine SXL.assign rfl ?_
          refine SXL.nil ?_
          refine thenQ.normal ?_
          refine SX.ret ?_
          refine retQ.two (ResAt.cellNo 1 sh_23 rfl rfl rfl) (ResAt.tmp rfl) ?_
          rw [← hA, hc22, g1, g2]
      · refine (show SXL _ _ [_] _ _ from ?_)
        refine SXL.alloc zp_114 ?_; intro b3
        refine SXL.nil (stepQ.mk _ rfl rfl ?_)
        refine SXA.all [12] (by kernel_rfl) rfl ⟨⟨?_, rfl⟩, trivial⟩
        refine (show SXL _ _ [_] _ _ from ?_)
        refine SXL.alloc zp_117 ?_; intro b4
        refine SXL.nil (stepQ.mk _ rfl rfl ?_)
        refine SXA.all [14] (by kernel_rfl) rfl ⟨⟨?_, rfl⟩, trivial⟩
        refine (show SXL _ _ [_] _ _ from ?_)
        refine SXL.store 4 sz_117 rfl rfl rfl rfl hW1 (putAt_all _ _ (by simp [hW1])) ?_ hW2
        refine SXL.nil (stepQ.mkL _ (by kernel_rfl) rfl rfl ?_)
        refine SXA.all [15] (by kernel_rfl) rfl ⟨⟨?_, rfl⟩, trivial⟩
        refine (show SXL _ _ [_] _ _ from ?_)
        refine SXL.store 3 sz_114 rfl rfl rfl rfl (by simp [hO]) (putAt_all _ _ (by simp [hO])) ?_ (ints_isOne _)
        refine SXL.nil (stepQ.mkL _ (by kernel_rfl) rfl rfl ?_)
        refine SXA.takeM 16 1 rfl (by kernel_rfl) rfl ?_
        refine SXL.assign rfl ?_
        refine SXL.nil ⟨rfl, rfl, rfl, ?_⟩
        refine SXA.done (by kernel_rfl) ?_
        refine SXL.nil ?_
        refine thenQ.normal ?_
        refine SX.seq ?_
        refine SX.seq ?_
        refine SX.region ?_
        refine SXL.move rfl ?_
        refine SXL.neqI rfl rfl ?_
        refine SXL.nil ?_
        refine thenQ.normal ?_
        refine SX.condP rfl (fun c22 => ?_) (fun c22 => ?_)
        · refine SX.seq ?_
          refine SX.region ?_
          refine SXL.buildS pl_23 zp_23 rfl rfl ?_
          refine SXL.move rfl ?_
          refine SXL.store 1 sz_23 rfl rfl rfl rfl rfl rfl ?_
          refine SXL.assign rfl ?_
          refine SXL.nil ?_
          refine thenQ.normal ?_
          refine SX.ret ?_
          refine thenQ.ret ?_
          refine retQ.two (ResAt.cellNo 1 sh_23 rfl rfl rfl) (ResAt.tmp rfl) ?_
          rw [givesLo, givesHi, ← hA, if_neg c22, if_neg c22]
        · refine SX.skip ?_
          refine thenQ.normal ?_
          refine SX.seq ?_
          have hc22 := Decidable.not_not.1 c22
          obtain ⟨hv, hwk, ht⟩ := toldE_valid (hA ▸ hc22)
          obtain ⟨rfl, rfl⟩ := hok hv ((hp hv).2 hwk) ht
          obtain ⟨g1, g2⟩ := outA_at (hA ▸ hc22)
          have hH := hv.1
          unfold HeadP at hH
          refine SX.region ?_
          refine SXL.move rfl ?_
          refine SXL.indexA el_114 rfl rfl (by omega) ?_
          refine SXL.loadNo 3 sh_23 rfl rfl (ints_take2' (M := outA s) (i := week.toNat) (by omega) (by rw [hO]; omega)) ?_
          refine SXL.store 1 sz_23 rfl rfl rfl rfl rfl rfl ?_
          refine SXL.assign rfl ?_
          refine SXL.nil ?_
          refine thenQ.normal ?_
          refine SX.ret ?_
          refine retQ.two (ResAt.cellNo 1 sh_23 rfl rfl rfl) (ResAt.tmp rfl) ?_
          rw [← hA, hc22, g1, g2]
    · refine (show SXL _ _ [_] _ _ from ?_)
      refine SXL.alloc zp_117 ?_; intro b3
      refine SXL.nil (stepQ.mk _ rfl rfl ?_)
      refine SXA.all [7, 13] (by kernel_rfl) rfl ⟨⟨?_, rfl⟩, ⟨?_, rfl⟩, trivial⟩
      · refine (show SXL _ _ [_] _ _ from ?_)
        refine SXL.callP (AskR s bo ro bc rc (Wi week 0 (IntKind.i64.wrap (s.weeks - 1))) 11) fn_75 rfl (fun w hI => asked_any s bo ro bc rc (Wi week 0 (IntKind.i64.wrap (s.weeks - 1))) 11 hb hr w (hg.inv hI) (hs.inv hI)) ?_; rintro _ ⟨W, O, hW1, hW2, hO, rfl, hok⟩
        refine SXL.nil (stepQ.mk _ rfl rfl ?_)
        refine SXA.take 8 2 rfl (by kernel_rfl) rfl ?_
        refine SXL.move rfl ?_
        refine SXL.extract rfl rfl ?_
        refine SXL.nil ⟨rfl, rfl, rfl, ?_⟩
        refine SXA.takeM 10 2 rfl (by kernel_rfl) rfl ?_
        refine SXL.extract rfl rfl ?_
        refine SXL.extract rfl rfl ?_
        refine SXL.nil ⟨rfl, rfl, rfl, ?_⟩
        refine SXA.all [13] (by kernel_rfl) rfl ⟨⟨?_, rfl⟩, trivial⟩
        refine (show SXL _ _ [_] _ _ from ?_)
        refine SXL.alloc zp_114 ?_; intro b4
        refine SXL.nil (stepQ.mk _ rfl rfl ?_)
        refine SXA.all [14] (by kernel_rfl) rfl ⟨⟨?_, rfl⟩, trivial⟩
        refine (show SXL _ _ [_] _ _ from ?_)
        refine SXL.store 3 sz_117 rfl rfl rfl rfl hW1 (putAt_all _ _ (by simp [hW1])) ?_ hW2
        refine SXL.nil (stepQ.mkL _ (by kernel_rfl) rfl rfl ?_)
        refine SXA.all [15] (by kernel_rfl) rfl ⟨⟨?_, rfl⟩, trivial⟩
        refine (show SXL _ _ [_] _ _ from ?_)
        refine SXL.store 4 sz_114 rfl rfl rfl rfl (by simp [hO]) (putAt_all _ _ (by simp [hO])) ?_ (ints_isOne _)
        refine SXL.nil (stepQ.mkL _ (by kernel_rfl) rfl rfl ?_)
        refine SXA.takeM 16 1 rfl (by kernel_rfl) rfl ?_
        refine SXL.assign rfl ?_
        refine SXL.nil ⟨rfl, rfl, rfl, ?_⟩
        refine SXA.done (by kernel_rfl) ?_
        refine SXL.nil ?_
        refine thenQ.normal ?_
        refine SX.seq ?_
        refine SX.seq ?_
        refine SX.region ?_
        refine SXL.move rfl ?_
        refine SXL.neqI rfl rfl ?_
        refine SXL.nil ?_
        refine thenQ.normal ?_
        refine SX.condP rfl (fun c22 => ?_) (fun c22 => ?_)
        · refine SX.seq ?_
          refine SX.region ?_
          refine SXL.buildS pl_23 zp_23 rfl rfl ?_
          refine SXL.move rfl ?_
          refine SXL.store 1 sz_23 rfl rfl rfl rfl rfl rfl ?_
          refine SXL.assign rfl ?_
          refine SXL.nil ?_
          refine thenQ.normal ?_
          refine SX.ret ?_
          refine thenQ.ret ?_
          refine retQ.two (ResAt.cellNo 1 sh_23 rfl rfl rfl) (ResAt.tmp rfl) ?_
          rw [givesLo, givesHi, ← hA, if_neg c22, if_neg c22]
        · refine SX.skip ?_
          refine thenQ.normal ?_
          refine SX.seq ?_
          have hc22 := Decidable.not_not.1 c22
          obtain ⟨hv, hwk, ht⟩ := toldE_valid (hA ▸ hc22)
          obtain ⟨rfl, rfl⟩ := hok hv ((hp hv).2 hwk) ht
          obtain ⟨g1, g2⟩ := outA_at (hA ▸ hc22)
          have hH := hv.1
          unfold HeadP at hH
          refine SX.region ?_
          refine SXL.move rfl ?_
          refine SXL.indexA el_114 rfl rfl (by omega) ?_
          refine SXL.loadNo 4 sh_23 rfl rfl (ints_take2' (M := outA s) (i := week.toNat) (by omega) (by rw [hO]; omega)) ?_
          refine SXL.store 1 sz_23 rfl rfl rfl rfl rfl rfl ?_
          refine SXL.assign rfl ?_
          refine SXL.nil ?_
          refine thenQ.normal ?_
          refine SX.ret ?_
          refine retQ.two (ResAt.cellNo 1 sh_23 rfl rfl rfl) (ResAt.tmp rfl) ?_
          rw [← hA, hc22, g1, g2]
      · refine (show SXL _ _ [_] _ _ from ?_)
        refine SXL.alloc zp_114 ?_; intro b4
        refine SXL.nil (stepQ.mk _ rfl rfl ?_)
        refine SXA.all [7] (by kernel_rfl) rfl ⟨⟨?_, rfl⟩, trivial⟩
        refine (show SXL _ _ [_] _ _ from ?_)
        refine SXL.callP (AskR s bo ro bc rc (Wi week 0 (IntKind.i64.wrap (s.weeks - 1))) 11) fn_75 rfl (fun w hI => asked_any s bo ro bc rc (Wi week 0 (IntKind.i64.wrap (s.weeks - 1))) 11 hb hr w (hg.inv hI) (hs.inv hI)) ?_; rintro _ ⟨W, O, hW1, hW2, hO, rfl, hok⟩
        refine SXL.nil (stepQ.mk _ rfl rfl ?_)
        refine SXA.take 8 2 rfl (by kernel_rfl) rfl ?_
        refine SXL.move rfl ?_
        refine SXL.extract rfl rfl ?_
        refine SXL.nil ⟨rfl, rfl, rfl, ?_⟩
        refine SXA.takeM 10 2 rfl (by kernel_rfl) rfl ?_
        refine SXL.extract rfl rfl ?_
        refine SXL.extract rfl rfl ?_
        refine SXL.nil ⟨rfl, rfl, rfl, ?_⟩
        refine SXA.all [14] (by kernel_rfl) rfl ⟨⟨?_, rfl⟩, trivial⟩
        refine (show SXL _ _ [_] _ _ from ?_)
        refine SXL.store 3 sz_117 rfl rfl rfl rfl hW1 (putAt_all _ _ (by simp [hW1])) ?_ hW2
        refine SXL.nil (stepQ.mkL _ (by kernel_rfl) rfl rfl ?_)
        refine SXA.all [15] (by kernel_rfl) rfl ⟨⟨?_, rfl⟩, trivial⟩
        refine (show SXL _ _ [_] _ _ from ?_)
        refine SXL.store 4 sz_114 rfl rfl rfl rfl (by simp [hO]) (putAt_all _ _ (by simp [hO])) ?_ (ints_isOne _)
        refine SXL.nil (stepQ.mkL _ (by kernel_rfl) rfl rfl ?_)
        refine SXA.takeM 16 1 rfl (by kernel_rfl) rfl ?_
        refine SXL.assign rfl ?_
        refine SXL.nil ⟨rfl, rfl, rfl, ?_⟩
        refine SXA.done (by kernel_rfl) ?_
        refine SXL.nil ?_
        refine thenQ.normal ?_
        refine SX.seq ?_
        refine SX.seq ?_
        refine SX.region ?_
        refine SXL.move rfl ?_
        refine SXL.neqI rfl rfl ?_
        refine SXL.nil ?_
        refine thenQ.normal ?_
        refine SX.condP rfl (fun c22 => ?_) (fun c22 => ?_)
        · refine SX.seq ?_
          refine SX.region ?_
          refine SXL.buildS pl_23 zp_23 rfl rfl ?_
          refine SXL.move rfl ?_
          refine SXL.store 1 sz_23 rfl rfl rfl rfl rfl rfl ?_
          refine SXL.assign rfl ?_
          refine SXL.nil ?_
          refine thenQ.normal ?_
          refine SX.ret ?_
          refine thenQ.ret ?_
          refine retQ.two (ResAt.cellNo 1 sh_23 rfl rfl rfl) (ResAt.tmp rfl) ?_
          rw [givesLo, givesHi, ← hA, if_neg c22, if_neg c22]
        · refine SX.skip ?_
          refine thenQ.normal ?_
          refine SX.seq ?_
          have hc22 := Decidable.not_not.1 c22
          obtain ⟨hv, hwk, ht⟩ := toldE_valid (hA ▸ hc22)
          obtain ⟨rfl, rfl⟩ := hok hv ((hp hv).2 hwk) ht
          obtain ⟨g1, g2⟩ := outA_at (hA ▸ hc22)
          have hH := hv.1
          unfold HeadP at hH
          refine SX.region ?_
          refine SXL.move rfl ?_
          refine SXL.indexA el_114 rfl rfl (by omega) ?_
          refine SXL.loadNo 4 sh_23 rfl rfl (ints_take2' (M := outA s) (i := week.toNat) (by omega) (by rw [hO]; omega)) ?_
          refine SXL.store 1 sz_23 rfl rfl rfl rfl rfl rfl ?_
          refine SXL.assign rfl ?_
          refine SXL.nil ?_
          refine thenQ.normal ?_
          refine SX.ret ?_
          refine retQ.two (ResAt.cellNo 1 sh_23 rfl rfl rfl) (ResAt.tmp rfl) ?_
          rw [← hA, hc22, g1, g2]
    · refine (show SXL _ _ [_] _ _ from ?_)
      refine SXL.alloc zp_114 ?_; intro b3
      refine SXL.nil (stepQ.mk _ rfl rfl ?_)
      refine SXA.all [7, 12] (by kernel_rfl) rfl ⟨⟨?_, rfl⟩, ⟨?_, rfl⟩, trivial⟩
      · refine (show SXL _ _ [_] _ _ from ?_)
        refine SXL.callP (AskR s bo ro bc rc (Wi week 0 (IntKind.i64.wrap (s.weeks - 1))) 11) fn_75 rfl (fun w hI => asked_any s bo ro bc rc (Wi week 0 (IntKind.i64.wrap (s.weeks - 1))) 11 hb hr w (hg.inv hI) (hs.inv hI)) ?_; rintro _ ⟨W, O, hW1, hW2, hO, rfl, hok⟩
        refine SXL.nil (stepQ.mk _ rfl rfl ?_)
        refine SXA.take 8 2 rfl (by kernel_rfl) rfl ?_
        refine SXL.move rfl ?_
        refine SXL.extract rfl rfl ?_
        refine SXL.nil ⟨rfl, rfl, rfl, ?_⟩
        refine SXA.takeM 10 2 rfl (by kernel_rfl) rfl ?_
        refine SXL.extract rfl rfl ?_
        refine SXL.extract rfl rfl ?_
        refine SXL.nil ⟨rfl, rfl, rfl, ?_⟩
        refine SXA.all [12] (by kernel_rfl) rfl ⟨⟨?_, rfl⟩, trivial⟩
        refine (show SXL _ _ [_] _ _ from ?_)
        refine SXL.alloc zp_117 ?_; intro b4
        refine SXL.nil (stepQ.mk _ rfl rfl ?_)
        refine SXA.all [14] (by kernel_rfl) rfl ⟨⟨?_, rfl⟩, trivial⟩
        refine (show SXL _ _ [_] _ _ from ?_)
        refine SXL.store 4 sz_117 rfl rfl rfl rfl hW1 (putAt_all _ _ (by simp [hW1])) ?_ hW2
        refine SXL.nil (stepQ.mkL _ (by kernel_rfl) rfl rfl ?_)
        refine SXA.all [15] (by kernel_rfl) rfl ⟨⟨?_, rfl⟩, trivial⟩
        refine (show SXL _ _ [_] _ _ from ?_)
        refine SXL.store 3 sz_114 rfl rfl rfl rfl (by simp [hO]) (putAt_all _ _ (by simp [hO])) ?_ (ints_isOne _)
        refine SXL.nil (stepQ.mkL _ (by kernel_rfl) rfl rfl ?_)
        refine SXA.takeM 16 1 rfl (by kernel_rfl) rfl ?_
        refine SXL.assign rfl ?_
        refine SXL.nil ⟨rfl, rfl, rfl, ?_⟩
        refine SXA.done (by kernel_rfl) ?_
        refine SXL.nil ?_
        refine thenQ.normal ?_
        refine SX.seq ?_
        refine SX.seq ?_
        refine SX.region ?_
        refine SXL.move rfl ?_
        refine SXL.neqI rfl rfl ?_
        refine SXL.nil ?_
        refine thenQ.normal ?_
        refine SX.condP rfl (fun c22 => ?_) (fun c22 => ?_)
        · refine SX.seq ?_
          refine SX.region ?_
          refine SXL.buildS pl_23 zp_23 rfl rfl ?_
          refine SXL.move rfl ?_
          refine SXL.store 1 sz_23 rfl rfl rfl rfl rfl rfl ?_
          refine SXL.assign rfl ?_
          refine SXL.nil ?_
          refine thenQ.normal ?_
          refine SX.ret ?_
          refine thenQ.ret ?_
          refine retQ.two (ResAt.cellNo 1 sh_23 rfl rfl rfl) (ResAt.tmp rfl) ?_
          rw [givesLo, givesHi, ← hA, if_neg c22, if_neg c22]
        · refine SX.skip ?_
          refine thenQ.normal ?_
          refine SX.seq ?_
          have hc22 := Decidable.not_not.1 c22
          obtain ⟨hv, hwk, ht⟩ := toldE_valid (hA ▸ hc22)
          obtain ⟨rfl, rfl⟩ := hok hv ((hp hv).2 hwk) ht
          obtain ⟨g1, g2⟩ := outA_at (hA ▸ hc22)
          have hH := hv.1
          unfold HeadP at hH
          refine SX.region ?_
          refine SXL.move rfl ?_
          refine SXL.indexA el_114 rfl rfl (by omega) ?_
          refine SXL.loadNo 3 sh_23 rfl rfl (ints_take2' (M := outA s) (i := week.toNat) (by omega) (by rw [hO]; omega)) ?_
          refine SXL.store 1 sz_23 rfl rfl rfl rfl rfl rfl ?_
          refine SXL.assign rfl ?_
          refine SXL.nil ?_
          refine thenQ.normal ?_
          refine SX.ret ?_
          refine retQ.two (ResAt.cellNo 1 sh_23 rfl rfl rfl) (ResAt.tmp rfl) ?_
          rw [← hA, hc22, g1, g2]
      · refine (show SXL _ _ [_] _ _ from ?_)
        refine SXL.alloc zp_117 ?_; intro b4
        refine SXL.nil (stepQ.mk _ rfl rfl ?_)
        refine SXA.all [7] (by kernel_rfl) rfl ⟨⟨?_, rfl⟩, trivial⟩
        refine (show SXL _ _ [_] _ _ from ?_)
        refine SXL.callP (AskR s bo ro bc rc (Wi week 0 (IntKind.i64.wrap (s.weeks - 1))) 11) fn_75 rfl (fun w hI => asked_any s bo ro bc rc (Wi week 0 (IntKind.i64.wrap (s.weeks - 1))) 11 hb hr w (hg.inv hI) (hs.inv hI)) ?_; rintro _ ⟨W, O, hW1, hW2, hO, rfl, hok⟩
        refine SXL.nil (stepQ.mk _ rfl rfl ?_)
        refine SXA.take 8 2 rfl (by kernel_rfl) rfl ?_
        refine SXL.move rfl ?_
        refine SXL.extract rfl rfl ?_
        refine SXL.nil ⟨rfl, rfl, rfl, ?_⟩
        refine SXA.takeM 10 2 rfl (by kernel_rfl) rfl ?_
        refine SXL.extract rfl rfl ?_
        refine SXL.extract rfl rfl ?_
        refine SXL.nil ⟨rfl, rfl, rfl, ?_⟩
        refine SXA.all [14] (by kernel_rfl) rfl ⟨⟨?_, rfl⟩, trivial⟩
        refine (show SXL _ _ [_] _ _ from ?_)
        refine SXL.store 4 sz_117 rfl rfl rfl rfl hW1 (putAt_all _ _ (by simp [hW1])) ?_ hW2
        refine SXL.nil (stepQ.mkL _ (by kernel_rfl) rfl rfl ?_)
        refine SXA.all [15] (by kernel_rfl) rfl ⟨⟨?_, rfl⟩, trivial⟩
        refine (show SXL _ _ [_] _ _ from ?_)
        refine SXL.store 3 sz_114 rfl rfl rfl rfl (by simp [hO]) (putAt_all _ _ (by simp [hO])) ?_ (ints_isOne _)
        refine SXL.nil (stepQ.mkL _ (by kernel_rfl) rfl rfl ?_)
        refine SXA.takeM 16 1 rfl (by kernel_rfl) rfl ?_
        refine SXL.assign rfl ?_
        refine SXL.nil ⟨rfl, rfl, rfl, ?_⟩
        refine SXA.done (by kernel_rfl) ?_
        refine SXL.nil ?_
        refine thenQ.normal ?_
        refine SX.seq ?_
        refine SX.seq ?_
        refine SX.region ?_
        refine SXL.move rfl ?_
        refine SXL.neqI rfl rfl ?_
        refine SXL.nil ?_
        refine thenQ.normal ?_
        refine SX.condP rfl (fun c22 => ?_) (fun c22 => ?_)
        · refine SX.seq ?_
          refine SX.region ?_
          refine SXL.buildS pl_23 zp_23 rfl rfl ?_
          refine SXL.move rfl ?_
          refine SXL.store 1 sz_23 rfl rfl rfl rfl rfl rfl ?_
          refine SXL.assign rfl ?_
          refine SXL.nil ?_
          refine thenQ.normal ?_
          refine SX.ret ?_
          refine thenQ.ret ?_
          refine retQ.two (ResAt.cellNo 1 sh_23 rfl rfl rfl) (ResAt.tmp rfl) ?_
          rw [givesLo, givesHi, ← hA, if_neg c22, if_neg c22]
        · refine SX.skip ?_
          refine thenQ.normal ?_
          refine SX.seq ?_
          have hc22 := Decidable.not_not.1 c22
          obtain ⟨hv, hwk, ht⟩ := toldE_valid (hA ▸ hc22)
          obtain ⟨rfl, rfl⟩ := hok hv ((hp hv).2 hwk) ht
          obtain ⟨g1, g2⟩ := outA_at (hA ▸ hc22)
          have hH := hv.1
          unfold HeadP at hH
          refine SX.region ?_
          refine SXL.move rfl ?_
          refine SXL.indexA el_114 rfl rfl (by omega) ?_
          refine SXL.loadNo 3 sh_23 rfl rfl (ints_take2' (M := outA s) (i := week.toNat) (by omega) (by rw [hO]; omega)) ?_
          refine SXL.store 1 sz_23 rfl rfl rfl rfl rfl rfl ?_
          refine SXL.assign rfl ?_
          refine SXL.nil ?_
          refine thenQ.normal ?_
          refine SX.ret ?_
          refine retQ.two (ResAt.cellNo 1 sh_23 rfl rfl rfl) (ResAt.tmp rfl) ?_
          rw [← hA, hc22, g1, g2]
  · refine (show SXL _ _ [_] _ _ from ?_)
    refine SXL.alloc zp_117 ?_; intro b2
    refine SXL.nil (stepQ.mk _ rfl rfl ?_)
    refine SXA.all [5, 13] (by kernel_rfl) rfl ⟨⟨?_, rfl⟩, ⟨?_, rfl⟩, trivial⟩
    · refine (show SXL _ _ [_] _ _ from ?_)
      refine SXL.buildSlice et_35 zp_3 rfl rfl rfl rfl ?_; intro b3
      refine SXL.nil (stepQ.mk _ rfl rfl ?_)
      refine SXA.take 6 1 rfl (by kernel_rfl) rfl ?_
      refine SXL.call1 (.bool (decide (Wi week 0 (IntKind.i64.wrap (s.weeks - 1))))) fn_78 rfl (fun w hI => in1_own hI 3 week 0 (IntKind.i64.wrap (s.weeks - 1)) rfl) ?_
      refine SXL.nil ⟨rfl, rfl, rfl, ?_⟩
      refine SXA.all [7, 13] (by kernel_rfl) rfl ⟨⟨?_, rfl⟩, ⟨?_, rfl⟩, trivial⟩
      · refine (show SXL _ _ [_] _ _ from ?_)
        refine SXL.callP (AskR s bo ro bc rc (Wi week 0 (IntKind.i64.wrap (s.weeks - 1))) 11) fn_75 rfl (fun w hI => asked_any s bo ro bc rc (Wi week 0 (IntKind.i64.wrap (s.weeks - 1))) 11 hb hr w (hg.inv hI) (hs.inv hI)) ?_; rintro _ ⟨W, O, hW1, hW2, hO, rfl, hok⟩
        refine SXL.nil (stepQ.mk _ rfl rfl ?_)
        refine SXA.take 8 2 rfl (by kernel_rfl) rfl ?_
        refine SXL.move rfl ?_
        refine SXL.extract rfl rfl ?_
        refine SXL.nil ⟨rfl, rfl, rfl, ?_⟩
        refine SXA.takeM 10 2 rfl (by kernel_rfl) rfl ?_
        refine SXL.extract rfl rfl ?_
        refine SXL.extract rfl rfl ?_
        refine SXL.nil ⟨rfl, rfl, rfl, ?_⟩
        refine SXA.all [13] (by kernel_rfl) rfl ⟨⟨?_, rfl⟩, trivial⟩
        refine (show SXL _ _ [_] _ _ from ?_)
        refine SXL.alloc zp_114 ?_; intro b4
        refine SXL.nil (stepQ.mk _ rfl rfl ?_)
        refine SXA.all [14] (by kernel_rfl) rfl ⟨⟨?_, rfl⟩, trivial⟩
        refine (show SXL _ _ [_] _ _ from ?_)
        refine SXL.store 2 sz_117 rfl rfl rfl rfl hW1 (putAt_all _ _ (by simp [hW1])) ?_ hW2
        refine SXL.nil (stepQ.mkL _ (by kernel_rfl) rfl rfl ?_)
        refine SXA.all [15] (by kernel_rfl) rfl ⟨⟨?_, rfl⟩, trivial⟩
        refine (show SXL _ _ [_] _ _ from ?_)
        refine SXL.store 4 sz_114 rfl rfl rfl rfl (by simp [hO]) (putAt_all _ _ (by simp [hO])) ?_ (ints_isOne _)
        refine SXL.nil (stepQ.mkL _ (by kernel_rfl) rfl rfl ?_)
        refine SXA.takeM 16 1 rfl (by kernel_rfl) rfl ?_
        refine SXL.assign rfl ?_
        refine SXL.nil ⟨rfl, rfl, rfl, ?_⟩
        refine SXA.done (by kernel_rfl) ?_
        refine SXL.nil ?_
        refine thenQ.normal ?_
        refine SX.seq ?_
        refine SX.seq ?_
        refine SX.region ?_
        refine SXL.move rfl ?_
        refine SXL.neqI rfl rfl ?_
        refine SXL.nil ?_
        refine thenQ.normal ?_
        refine SX.condP rfl (fun c22 => ?_) (fun c22 => ?_)
        · refine SX.seq ?_
          refine SX.region ?_
          refine SXL.buildS pl_23 zp_23 rfl rfl ?_
          refine SXL.move rfl ?_
          refine SXL.store 1 sz_23 rfl rfl rfl rfl rfl rfl ?_
          refine SXL.assign rfl ?_
          refine SXL.nil ?_
          refine thenQ.normal ?_
          refine SX.ret ?_
          refine thenQ.ret ?_
          refine retQ.two (ResAt.cellNo 1 sh_23 rfl rfl rfl) (ResAt.tmp rfl) ?_
          rw [givesLo, givesHi, ← hA, if_neg c22, if_neg c22]
        · refine SX.skip ?_
          refine thenQ.normal ?_
          refine SX.seq ?_
          have hc22 := Decidable.not_not.1 c22
          obtain ⟨hv, hwk, ht⟩ := toldE_valid (hA ▸ hc22)
          obtain ⟨rfl, rfl⟩ := hok hv ((hp hv).2 hwk) ht
          obtain ⟨g1, g2⟩ := outA_at (hA ▸ hc22)
          have hH := hv.1
          unfold HeadP at hH
          refine SX.region ?_
          refine SXL.move rfl ?_
          refine SXL.indexA el_114 rfl rfl (by omega) ?_
          refine SXL.loadNo 4 sh_23 rfl rfl (ints_take2' (M := outA s) (i := week.toNat) (by omega) (by rw [hO]; omega)) ?_
          refine SXL.store 1 sz_23 rfl rfl rfl rfl rfl rfl ?_
          refine SXL.assign rfl ?_
          refine SXL.nil ?_
          refine thenQ.normal ?_
          refine SX.ret ?_
          refine retQ.two (ResAt.cellNo 1 sh_23 rfl rfl rfl) (ResAt.tmp rfl) ?_
          rw [← hA, hc22, g1, g2]
      · refine (show SXL _ _ [_] _ _ from ?_)
        refine SXL.alloc zp_114 ?_; intro b4
        refine SXL.nil (stepQ.mk _ rfl rfl ?_)
        refine SXA.all [7] (by kernel_rfl) rfl ⟨⟨?_, rfl⟩, trivial⟩
        refine (show SXL _ _ [_] _ _ from ?_)
        refine SXL.callP (AskR s bo ro bc rc (Wi week 0 (IntKind.i64.wrap (s.weeks - 1))) 11) fn_75 rfl (fun w hI => asked_any s bo ro bc rc (Wi week 0 (IntKind.i64.wrap (s.weeks - 1))) 11 hb hr w (hg.inv hI) (hs.inv hI)) ?_; rintro _ ⟨W, O, hW1, hW2, hO, rfl, hok⟩
        refine SXL.nil (stepQ.mk _ rfl rfl ?_)
        refine SXA.take 8 2 rfl (by kernel_rfl) rfl ?_
        refine SXL.move rfl ?_
        refine SXL.extract rfl rfl ?_
        refine SXL.nil ⟨rfl, rfl, rfl, ?_⟩
        refine SXA.takeM 10 2 rfl (by kernel_rfl) rfl ?_
        refine SXL.extract rfl rfl ?_
        refine SXL.extract rfl rfl ?_
        refine SXL.nil ⟨rfl, rfl, rfl, ?_⟩
        refine SXA.all [14] (by kernel_rfl) rfl ⟨⟨?_, rfl⟩, trivial⟩
        refine (show SXL _ _ [_] _ _ from ?_)
        refine SXL.store 2 sz_117 rfl rfl rfl rfl hW1 (putAt_all _ _ (by simp [hW1])) ?_ hW2
        refine SXL.nil (stepQ.mkL _ (by kernel_rfl) rfl rfl ?_)
        refine SXA.all [15] (by kernel_rfl) rfl ⟨⟨?_, rfl⟩, trivial⟩
        refine (show SXL _ _ [_] _ _ from ?_)
        refine SXL.store 4 sz_114 rfl rfl rfl rfl (by simp [hO]) (putAt_all _ _ (by simp [hO])) ?_ (ints_isOne _)
        refine SXL.nil (stepQ.mkL _ (by kernel_rfl) rfl rfl ?_)
        refine SXA.takeM 16 1 rfl (by kernel_rfl) rfl ?_
        refine SXL.assign rfl ?_
        refine SXL.nil ⟨rfl, rfl, rfl, ?_⟩
        refine SXA.done (by kernel_rfl) ?_
        refine SXL.nil ?_
        refine thenQ.normal ?_
        refine SX.seq ?_
        refine SX.seq ?_
        refine SX.region ?_
        refine SXL.move rfl ?_
        refine SXL.neqI rfl rfl ?_
        refine SXL.nil ?_
        refine thenQ.normal ?_
        refine SX.condP rfl (fun c22 => ?_) (fun c22 => ?_)
        · refine SX.seq ?_
          refine SX.region ?_
          refine SXL.buildS pl_23 zp_23 rfl rfl ?_
          refine SXL.move rfl ?_
          refine SXL.store 1 sz_23 rfl rfl rfl rfl rfl rfl ?_
          refine SXL.assign rfl ?_
          refine SXL.nil ?_
          refine thenQ.normal ?_
          refine SX.ret ?_
          refine thenQ.ret ?_
          refine retQ.two (ResAt.cellNo 1 sh_23 rfl rfl rfl) (ResAt.tmp rfl) ?_
          rw [givesLo, givesHi, ← hA, if_neg c22, if_neg c22]
        · refine SX.skip ?_
          refine thenQ.normal ?_
          refine SX.seq ?_
          have hc22 := Decidable.not_not.1 c22
          obtain ⟨hv, hwk, ht⟩ := toldE_valid (hA ▸ hc22)
          obtain ⟨rfl, rfl⟩ := hok hv ((hp hv).2 hwk) ht
          obtain ⟨g1, g2⟩ := outA_at (hA ▸ hc22)
          have hH := hv.1
          unfold HeadP at hH
          refine SX.region ?_
          refine SXL.move rfl ?_
          refine SXL.indexA el_114 rfl rfl (by omega) ?_
          refine SXL.loadNo 4 sh_23 rfl rfl (ints_take2' (M := outA s) (i := week.toNat) (by omega) (by rw [hO]; omega)) ?_
          refine SXL.store 1 sz_23 rfl rfl rfl rfl rfl rfl ?_
          refine SXL.assign rfl ?_
          refine SXL.nil ?_
          refine thenQ.normal ?_
          refine SX.ret ?_
          refine retQ.two (ResAt.cellNo 1 sh_23 rfl rfl rfl) (ResAt.tmp rfl) ?_
          rw [← hA, hc22, g1, g2]
    · refine (show SXL _ _ [_] _ _ from ?_)
      refine SXL.alloc zp_114 ?_; intro b3
      refine SXL.nil (stepQ.mk _ rfl rfl ?_)
      refine SXA.all [5] (by kernel_rfl) rfl ⟨⟨?_, rfl⟩, trivial⟩
      refine (show SXL _ _ [_] _ _ from ?_)
      refine SXL.buildSlice et_35 zp_3 rfl rfl rfl rfl ?_; intro b4
      refine SXL.nil (stepQ.mk _ rfl rfl ?_)
      refine SXA.take 6 1 rfl (by kernel_rfl) rfl ?_
      refine SXL.call1 (.bool (decide (Wi week 0 (IntKind.i64.wrap (s.weeks - 1))))) fn_78 rfl (fun w hI => in1_own hI 4 week 0 (IntKind.i64.wrap (s.weeks - 1)) rfl) ?_
      refine SXL.nil ⟨rfl, rfl, rfl, ?_⟩
      refine SXA.all [7] (by kernel_rfl) rfl ⟨⟨?_, rfl⟩, trivial⟩
      refine (show SXL _ _ [_] _ _ from ?_)
      refine SXL.callP (AskR s bo ro bc rc (Wi week 0 (IntKind.i64.wrap (s.weeks - 1))) 11) fn_75 rfl (fun w hI => asked_any s bo ro bc rc (Wi week 0 (IntKind.i64.wrap (s.weeks - 1))) 11 hb hr w (hg.inv hI) (hs.inv hI)) ?_; rintro _ ⟨W, O, hW1, hW2, hO, rfl, hok⟩
      refine SXL.nil (stepQ.mk _ rfl rfl ?_)
      refine SXA.take 8 2 rfl (by kernel_rfl) rfl ?_
      refine SXL.move rfl ?_
      refine SXL.extract rfl rfl ?_
      refine SXL.nil ⟨rfl, rfl, rfl, ?_⟩
      refine SXA.takeM 10 2 rfl (by kernel_rfl) rfl ?_
      refine SXL.extract rfl rfl ?_
      refine SXL.extract rfl rfl ?_
      refine SXL.nil ⟨rfl, rfl, rfl, ?_⟩
      refine SXA.all [14] (by kernel_rfl) rfl ⟨⟨?_, rfl⟩, trivial⟩
      refine (show SXL _ _ [_] _ _ from ?_)
      refine SXL.store 2 sz_117 rfl rfl rfl rfl hW1 (putAt_all _ _ (by simp [hW1])) ?_ hW2
      refine SXL.nil (stepQ.mkL _ (by kernel_rfl) rfl rfl ?_)
      refine SXA.all [15] (by kernel_rfl) rfl ⟨⟨?_, rfl⟩, trivial⟩
      refine (show SXL _ _ [_] _ _ from ?_)
      refine SXL.store 3 sz_114 rfl rfl rfl rfl (by simp [hO]) (putAt_all _ _ (by simp [hO])) ?_ (ints_isOne _)
      refine SXL.nil (stepQ.mkL _ (by kernel_rfl) rfl rfl ?_)
      refine SXA.takeM 16 1 rfl (by kernel_rfl) rfl ?_
      refine SXL.assign rfl ?_
      refine SXL.nil ⟨rfl, rfl, rfl, ?_⟩
      refine SXA.done (by kernel_rfl) ?_
      refine SXL.nil ?_
      refine thenQ.normal ?_
      refine SX.seq ?_
      refine SX.seq ?_
      refine SX.region ?_
      refine SXL.move rfl ?_
      refine SXL.neqI rfl rfl ?_
      refine SXL.nil ?_
      refine thenQ.normal ?_
      refine SX.condP rfl (fun c22 => ?_) (fun c22 => ?_)
      · refine SX.seq ?_
        refine SX.region ?_
        refine SXL.buildS pl_23 zp_23 rfl rfl ?_
        refine SXL.move rfl ?_
        refine SXL.store 1 sz_23 rfl rfl rfl rfl rfl rfl ?_
        refine SXL.assign rfl ?_
        refine SXL.nil ?_
        refine thenQ.normal ?_
        refine SX.ret ?_
        refine thenQ.ret ?_
        refine retQ.two (ResAt.cellNo 1 sh_23 rfl rfl rfl) (ResAt.tmp rfl) ?_
        rw [givesLo, givesHi, ← hA, if_neg c22, if_neg c22]
      · refine SX.skip ?_
        refine thenQ.normal ?_
        refine SX.seq ?_
        have hc22 := Decidable.not_not.1 c22
        obtain ⟨hv, hwk, ht⟩ := toldE_valid (hA ▸ hc22)
        obtain ⟨rfl, rfl⟩ := hok hv ((hp hv).2 hwk) ht
        obtain ⟨g1, g2⟩ := outA_at (hA ▸ hc22)
        have hH := hv.1
        unfold HeadP at hH
        refine SX.region ?_
        refine SXL.move rfl ?_
        refine SXL.indexA el_114 rfl rfl (by omega) ?_
        refine SXL.loadNo 3 sh_23 rfl rfl (ints_take2' (M := outA s) (i := week.toNat) (by omega) (by rw [hO]; omega)) ?_
        refine SXL.store 1 sz_23 rfl rfl rfl rfl rfl rfl ?_
        refine SXL.assign rfl ?_
        refine SXL.nil ?_
        refine thenQ.normal ?_
        refine SX.ret ?_
        refine retQ.two (ResAt.cellNo 1 sh_23 rfl rfl rfl) (ResAt.tmp rfl) ?_
        rw [← hA, hc22, g1, g2]
  · refine (show SXL _ _ [_] _ _ from ?_)
    refine SXL.alloc zp_114 ?_; intro b2
    refine SXL.nil (stepQ.mk _ rfl rfl ?_)
    refine SXA.all [5, 12] (by kernel_rfl) rfl ⟨⟨?_, rfl⟩, ⟨?_, rfl⟩, trivial⟩
    · refine (show SXL _ _ [_] _ _ from ?_)
      refine SXL.buildSlice et_35 zp_3 rfl rfl rfl rfl ?_; intro b3
      refine SXL.nil (stepQ.mk _ rfl rfl ?_)
      refine SXA.take 6 1 rfl (by kernel_rfl) rfl ?_
      refine SXL.call1 (.bool (decide (Wi week 0 (IntKind.i64.wrap (s.weeks - 1))))) fn_78 rfl (fun w hI => in1_own hI 3 week 0 (IntKind.i64.wrap (s.weeks - 1)) rfl) ?_
      refine SXL.nil ⟨rfl, rfl, rfl, ?_⟩
      refine SXA.all [7, 12] (by kernel_rfl) rfl ⟨⟨?_, rfl⟩, ⟨?_, rfl⟩, trivial⟩
      · refine (show SXL _ _ [_] _ _ from ?_)
        refine SXL.callP (AskR s bo ro bc rc (Wi week 0 (IntKind.i64.wrap (s.weeks - 1))) 11) fn_75 rfl (fun w hI => asked_any s bo ro bc rc (Wi week 0 (IntKind.i64.wrap (s.weeks - 1))) 11 hb hr w (hg.inv hI) (hs.inv hI)) ?_; rintro _ ⟨W, O, hW1, hW2, hO, rfl, hok⟩
        refine SXL.nil (stepQ.mk _ rfl rfl ?_)
        refine SXA.take 8 2 rfl (by kernel_rfl) rfl ?_
        refine SXL.move rfl ?_
        refine SXL.extract rfl rfl ?_
        refine SXL.nil ⟨rfl, rfl, rfl, ?_⟩
        refine SXA.takeM 10 2 rfl (by kernel_rfl) rfl ?_
        refine SXL.extract rfl rfl ?_
        refine SXL.extract rfl rfl ?_
        refine SXL.nil ⟨rfl, rfl, rfl, ?_⟩
        refine SXA.all [12] (by kernel_rfl) rfl ⟨⟨?_, rfl⟩, trivial⟩
        refine (show SXL _ _ [_] _ _ from ?_)
        refine SXL.alloc zp_117 ?_; intro b4
        refine SXL.nil (stepQ.mk _ rfl rfl ?_)
        refine SXA.all [14] (by kernel_rfl) rfl ⟨⟨?_, rfl⟩, trivial⟩
        refine (show SXL _ _ [_] _ _ from ?_)
        refine SXL.store 4 sz_117 rfl rfl rfl rfl hW1 (putAt_all _ _ (by simp [hW1])) ?_ hW2
        refine SXL.nil (stepQ.mkL _ (by kernel_rfl) rfl rfl ?_)
        refine SXA.all [15] (by kernel_rfl) rfl ⟨⟨?_, rfl⟩, trivial⟩
        refine (show SXL _ _ [_] _ _ from ?_)
        refine SXL.store 2 sz_114 rfl rfl rfl rfl (by simp [hO]) (putAt_all _ _ (by simp [hO])) ?_ (ints_isOne _)
        refine SXL.nil (stepQ.mkL _ (by kernel_rfl) rfl rfl ?_)
        refine SXA.takeM 16 1 rfl (by kernel_rfl) rfl ?_
        refine SXL.assign rfl ?_
        refine SXL.nil ⟨rfl, rfl, rfl, ?_⟩
        refine SXA.done (by kernel_rfl) ?_
        refine SXL.nil ?_
        refine thenQ.normal ?_
        refine SX.seq ?_
        refine SX.seq ?_
        refine SX.region ?_
        refine SXL.move rfl ?_
        refine SXL.neqI rfl rfl ?_
        refine SXL.nil ?_
        refine thenQ.normal ?_
        refine SX.condP rfl (fun c22 => ?_) (fun c22 => ?_)
        · refine SX.seq ?_
          refine SX.region ?_
          refine SXL.buildS pl_23 zp_23 rfl rfl ?_
          refine SXL.move rfl ?_
          refine SXL.store 1 sz_23 rfl rfl rfl rfl rfl rfl ?_
          refine SXL.assign rfl ?_
          refine SXL.nil ?_
          refine thenQ.normal ?_
          refine SX.ret ?_
          refine thenQ.ret ?_
          refine retQ.two (ResAt.cellNo 1 sh_23 rfl rfl rfl) (ResAt.tmp rfl) ?_
          rw [givesLo, givesHi, ← hA, if_neg c22, if_neg c22]
        · refine SX.skip ?_
          refine thenQ.normal ?_
          refine SX.seq ?_
          have hc22 := Decidable.not_not.1 c22
          obtain ⟨hv, hwk, ht⟩ := toldE_valid (hA ▸ hc22)
          obtain ⟨rfl, rfl⟩ := hok hv ((hp hv).2 hwk) ht
          obtain ⟨g1, g2⟩ := outA_at (hA ▸ hc22)
          have hH := hv.1
          unfold HeadP at hH
          refine SX.region ?_
          refine SXL.move rfl ?_
          refine SXL.indexA el_114 rfl rfl (by omega) ?_
          refine SXL.loadNo 2 sh_23 rfl rfl (ints_take2' (M := outA s) (i := week.toNat) (by omega) (by rw [hO]; omega)) ?_
          refine SXL.store 1 sz_23 rfl rfl rfl rfl rfl rfl ?_
          refine SXL.assign rfl ?_
          refine SXL.nil ?_
          refine thenQ.normal ?_
          refine SX.ret ?_
          refine retQ.two (ResAt.cellNo 1 sh_23 rfl rfl rfl) (ResAt.tmp rfl) ?_
          rw [← hA, hc22, g1, g2]
      · refine (show SXL _ _ [_] _ _ from ?_)
        refine SXL.alloc zp_117 ?_; intro b4
        refine SXL.nil (stepQ.mk _ rfl rfl ?_)
        refine SXA.all [7] (by kernel_rfl) rfl ⟨⟨?_, rfl⟩, trivial⟩
        refine (show SXL _ _ [_] _ _ from ?_)
        refine SXL.callP (AskR s bo ro bc rc (Wi week 0 (IntKind.i64.wrap (s.weeks - 1))) 11) fn_75 rfl (fun w hI => asked_any s bo ro bc rc (Wi week 0 (IntKind.i64.wrap (s.weeks - 1))) 11 hb hr w (hg.inv hI) (hs.inv hI)) ?_; rintro _ ⟨W, O, hW1, hW2, hO, rfl, hok⟩
        refine SXL.nil (stepQ.mk _ rfl rfl ?_)
        refine SXA.take 8 2 rfl (by kernel_rfl) rfl ?_
        refine SXL.move rfl ?_
        refine SXL.extract rfl rfl ?_
        refine SXL.nil ⟨rfl, rfl, rfl, ?_⟩
        refine SXA.takeM 10 2 rfl (by kernel_rfl) rfl ?_
        refine SXL.extract rfl rfl ?_
        refine SXL.extract rfl rfl ?_
        refine SXL.nil ⟨rfl, rfl, rfl, ?_⟩
        refine SXA.all [14] (by kernel_rfl) rfl ⟨⟨?_, rfl⟩, trivial⟩
        refine (show SXL _ _ [_] _ _ from ?_)
        refine SXL.store 4 sz_117 rfl rfl rfl rfl hW1 (putAt_all _ _ (by simp [hW1])) ?_ hW2
        refine SXL.nil (stepQ.mkL _ (by kernel_rfl) rfl rfl ?_)
        refine SXA.all [15] (by kernel_rfl) rfl ⟨⟨?_, rfl⟩, trivial⟩
        refine (show SXL _ _ [_] _ _ from ?_)
        refine SXL.store 2 sz_114 rfl rfl rfl rfl (by simp [hO]) (putAt_all _ _ (by simp [hO])) ?_ (ints_isOne _)
        refine SXL.nil (stepQ.mkL _ (by kernel_rfl) rfl rfl ?_)
        refine SXA.takeM 16 1 rfl (by kernel_rfl) rfl ?_
        refine SXL.assign rfl ?_
        refine SXL.nil ⟨rfl, rfl, rfl, ?_⟩
        refine SXA.done (by kernel_rfl) ?_
        refine SXL.nil ?_
        refine thenQ.normal ?_
        refine SX.seq ?_
        refine SX.seq ?_
        refine SX.region ?_
        refine SXL.move rfl ?_
        refine SXL.neqI rfl rfl ?_
        refine SXL.nil ?_
        refine thenQ.normal ?_
        refine SX.condP rfl (fun c22 => ?_) (fun c22 => ?_)
        · refine SX.seq ?_
          refine SX.region ?_
          refine SXL.buildS pl_23 zp_23 rfl rfl ?_
          refine SXL.move rfl ?_
          refine SXL.store 1 sz_23 rfl rfl rfl rfl rfl rfl ?_
          refine SXL.assign rfl ?_
          refine SXL.nil ?_
          refine thenQ.normal ?_
          refine SX.ret ?_
          refine thenQ.ret ?_
          refine retQ.two (ResAt.cellNo 1 sh_23 rfl rfl rfl) (ResAt.tmp rfl) ?_
          rw [givesLo, givesHi, ← hA, if_neg c22, if_neg c22]
        · refine SX.skip ?_
          refine thenQ.normal ?_
          refine SX.seq ?_
          have hc22 := Decidable.not_not.1 c22
          obtain ⟨hv, hwk, ht⟩ := toldE_valid (hA ▸ hc22)
          obtain ⟨rfl, rfl⟩ := hok hv ((hp hv).2 hwk) ht
          obtain ⟨g1, g2⟩ := outA_at (hA ▸ hc22)
          have hH := hv.1
          unfold HeadP at hH
          refine SX.region ?_
          refine SXL.move rfl ?_
          refine SXL.indexA el_114 rfl rfl (by omega) ?_
          refine SXL.loadNo 2 sh_23 rfl rfl (ints_take2' (M := outA s) (i := week.toNat) (by omega) (by rw [hO]; omega)) ?_
          refine SXL.store 1 sz_23 rfl rfl rfl rfl rfl rfl ?_
          refine SXL.assign rfl ?_
          refine SXL.nil ?_
          refine thenQ.normal ?_
          refine SX.ret ?_
          refine retQ.two (ResAt.cellNo 1 sh_23 rfl rfl rfl) (ResAt.tmp rfl) ?_
          rw [← hA, hc22, g1, g2]
    · refine (show SXL _ _ [_] _ _ from ?_)
      refine SXL.alloc zp_117 ?_; intro b3
      refine SXL.nil (stepQ.mk _ rfl rfl ?_)
      refine SXA.all [5] (by kernel_rfl) rfl ⟨⟨?_, rfl⟩, trivial⟩
      refine (show SXL _ _ [_] _ _ from ?_)
      refine SXL.buildSlice et_35 zp_3 rfl rfl rfl rfl ?_; intro b4
      refine SXL.nil (stepQ.mk _ rfl rfl ?_)
      refine SXA.take 6 1 rfl (by kernel_rfl) rfl ?_
      refine SXL.call1 (.bool (decide (Wi week 0 (IntKind.i64.wrap (s.weeks - 1))))) fn_78 rfl (fun w hI => in1_own hI 4 week 0 (IntKind.i64.wrap (s.weeks - 1)) rfl) ?_
      refine SXL.nil ⟨rfl, rfl, rfl, ?_⟩
      refine SXA.all [7] (by kernel_rfl) rfl ⟨⟨?_, rfl⟩, trivial⟩
      refine (show SXL _ _ [_] _ _ from ?_)
      refine SXL.callP (AskR s bo ro bc rc (Wi week 0 (IntKind.i64.wrap (s.weeks - 1))) 11) fn_75 rfl (fun w hI => asked_any s bo ro bc rc (Wi week 0 (IntKind.i64.wrap (s.weeks - 1))) 11 hb hr w (hg.inv hI) (hs.inv hI)) ?_; rintro _ ⟨W, O, hW1, hW2, hO, rfl, hok⟩
      refine SXL.nil (stepQ.mk _ rfl rfl ?_)
      refine SXA.take 8 2 rfl (by kernel_rfl) rfl ?_
      refine SXL.move rfl ?_
      refine SXL.extract rfl rfl ?_
      refine SXL.nil ⟨rfl, rfl, rfl, ?_⟩
      refine SXA.takeM 10 2 rfl (by kernel_rfl) rfl ?_
      refine SXL.extract rfl rfl ?_
      refine SXL.extract rfl rfl ?_
      refine SXL.nil ⟨rfl, rfl, rfl, ?_⟩
      refine SXA.all [14] (by kernel_rfl) rfl ⟨⟨?_, rfl⟩, trivial⟩
      refine (show SXL _ _ [_] _ _ from ?_)
      refine SXL.store 3 sz_117 rfl rfl rfl rfl hW1 (putAt_all _ _ (by simp [hW1])) ?_ hW2
      refine SXL.nil (stepQ.mkL _ (by kernel_rfl) rfl rfl ?_)
      refine SXA.all [15] (by kernel_rfl) rfl ⟨⟨?_, rfl⟩, trivial⟩
      refine (show SXL _ _ [_] _ _ from ?_)
      refine SXL.store 2 sz_114 rfl rfl rfl rfl (by simp [hO]) (putAt_all _ _ (by simp [hO])) ?_ (ints_isOne _)
      refine SXL.nil (stepQ.mkL _ (by kernel_rfl) rfl rfl ?_)
      refine SXA.takeM 16 1 rfl (by kernel_rfl) rfl ?_
      refine SXL.assign rfl ?_
      refine SXL.nil ⟨rfl, rfl, rfl, ?_⟩
      refine SXA.done (by kernel_rfl) ?_
      refine SXL.nil ?_
      refine thenQ.normal ?_
      refine SX.seq ?_
      refine SX.seq ?_
      refine SX.region ?_
      refine SXL.move rfl ?_
      refine SXL.neqI rfl rfl ?_
      refine SXL.nil ?_
      refine thenQ.normal ?_
      refine SX.condP rfl (fun c22 => ?_) (fun c22 => ?_)
      · refine SX.seq ?_
        refine SX.region ?_
        refine SXL.buildS pl_23 zp_23 rfl rfl ?_
        refine SXL.move rfl ?_
        refine SXL.store 1 sz_23 rfl rfl rfl rfl rfl rfl ?_
        refine SXL.assign rfl ?_
        refine SXL.nil ?_
        refine thenQ.normal ?_
        refine SX.ret ?_
        refine thenQ.ret ?_
        refine retQ.two (ResAt.cellNo 1 sh_23 rfl rfl rfl) (ResAt.tmp rfl) ?_
        rw [givesLo, givesHi, ← hA, if_neg c22, if_neg c22]
      · refine SX.skip ?_
        refine thenQ.normal ?_
        refine SX.seq ?_
        have hc22 := Decidable.not_not.1 c22
        obtain ⟨hv, hwk, ht⟩ := toldE_valid (hA ▸ hc22)
        obtain ⟨rfl, rfl⟩ := hok hv ((hp hv).2 hwk) ht
        obtain ⟨g1, g2⟩ := outA_at (hA ▸ hc22)
        have hH := hv.1
        unfold HeadP at hH
        refine SX.region ?_
        refine SXL.move rfl ?_
        refine SXL.indexA el_114 rfl rfl (by omega) ?_
        refine SXL.loadNo 2 sh_23 rfl rfl (ints_take2' (M := outA s) (i := week.toNat) (by omega) (by rw [hO]; omega)) ?_
        refine SXL.store 1 sz_23 rfl rfl rfl rfl rfl rfl ?_
        refine SXL.assign rfl ?_
        refine SXL.nil ?_
        refine thenQ.normal ?_
        refine SX.ret ?_
        refine retQ.two (ResAt.cellNo 1 sh_23 rfl rfl rfl) (ResAt.tmp rfl) ?_
        rw [← hA, hc22, g1, g2]
theorem sknown_any (s : Sp) (bo ro : Option Addr) (bc rc : Nat) (week need : Int) (hb : s.book.length ≤ 1000000) (hr : s.reads.length ≤ 1000000) (w : World) (hg : Gl w) (hs : SpAt w s bo ro) :
    CallsR Tryd.prog 24 [.agg ⟨[.int .i64 s.weeks, .int .i64 s.most, .int .i64 s.fall, .int .i64 s.a0, .int .i64 s.a1, .int .i64 s.w0, .int .i64 s.w1, (.slice bo s.book.length bc), (.slice ro s.reads.length rc)]⟩, .int .i64 week, .int .i64 need] w (fun v _ => v = .tuple ⟨[.int .u8 (knownV s week need), .int .i64 (toldE s week)]⟩) := by
  refine CallsR.of_SX (n := 30) (rs := [.tmp 6, .tmp 7]) Tryd.func24 rfl rfl rfl rfl ?_
  show SX _ _ _ ⟨[(0, .agg ⟨[.int .i64 s.weeks, .int .i64 s.most, .int .i64 s.fall, .int .i64 s.a0, .int .i64 s.a1, .int .i64 s.w0, .int .i64 s.w1, (.slice bo s.book.length bc), (.slice ro s.reads.length rc)]⟩), (1, .int .i64 week), (2, .int .i64 need)], [], []⟩
  refine SX.seq ?_
  refine SX.region ?_
  refine SXL.box rfl rfl ?_; intro b0
  refine SXL.assign rfl ?_
  refine SXL.assign rfl ?_
  refine SXL.nil ?_
  refine thenQ.normal ?_
  refine SX.seq ?_
  refine SX.region ?_
  refine SXL.loadNo 0 sh_27 rfl rfl rfl ?_
  refine SXL.move rfl ?_
  refine SXL.call1 (.tuple ⟨[.agg ⟨[.int .i64 ((givesLo s week)), .int .i64 ((givesHi s week))]⟩, .int .i64 (toldE s week)]⟩) fn_22 rfl (fun w hI => sgives_any s bo ro _ _ _ hb hr _ (hg.inv hI) (hs.inv hI)) ?_
  refine SXL.move rfl ?_
  refine SXL.extract rfl rfl ?_
  refine SXL.extract rfl rfl ?_
  refine SXL.alloc zp_23 ?_; intro b1
  refine SXL.store 1 sz_23 rfl rfl rfl rfl rfl rfl ?_
  refine SXL.assign rfl ?_
  refine SXL.nil ?_
  refine thenQ.normal ?_
  refine SX.seq ?_
  refine SX.block ?_
  refine SX.seq ?_
  refine SX.region ?_
  refine SXL.move rfl ?_
  refine SXL.neqI rfl rfl ?_
  refine SXL.assign rfl ?_
  refine SXL.nil ?_
  refine thenQ.normal ?_
  refine SX.condP rfl (fun c17 => ?_) (fun c17 => ?_)
  · refine SX.seq ?_
    refine SX.region ?_
    refine SXL.move rfl ?_
    refine SXL.assign rfl ?_
    refine SXL.assign rfl ?_
    refine SXL.nil ?_
    refine thenQ.normal ?_
    refine SX.ret ?_
    refine blockQ.ret ?_
    refine thenQ.ret ?_
    refine retQ.two (ResAt.tmp rfl) (ResAt.tmp rfl) ?_
    rw [knownV, if_pos c17]
  · refine SX.seq ?_
    refine SX.region ?_
    refine SXL.fieldAddr fp_23_0 rfl ?_
    refine SXL.load1o 1 sh_3 rfl rfl rfl ?_
    refine SXL.move rfl ?_
    refine SXL.geq rfl rfl ?_
    refine SXL.assign rfl ?_
    refine SXL.nil ?_
    refine thenQ.normal ?_
    refine SX.condP rfl (fun c22 => ?_) (fun c22 => ?_)
    · refine SX.seq ?_
      refine SX.region ?_
      refine SXL.assign rfl ?_
      refine SXL.assign rfl ?_
      refine SXL.nil ?_
      refine thenQ.normal ?_
      refine SX.ret ?_
      refine blockQ.ret ?_
      refine thenQ.ret ?_
      refine retQ.two (ResAt.tmp rfl) (ResAt.tmp rfl) ?_
      rw [knownV, if_neg c17, if_pos c22, Decidable.not_not.1 c17]
    · refine SX.seq ?_
      refine SX.region ?_
      refine SXL.fieldAddr fp_23_1 rfl ?_
      refine SXL.load1o 1 sh_3 rfl rfl rfl ?_
      refine SXL.move rfl ?_
      refine SXL.lss rfl rfl ?_
      refine SXL.assign rfl ?_
      refine SXL.nil ?_
      refine thenQ.normal ?_
      refine SX.condP rfl (fun c26 => ?_) (fun c26 => ?_)
      · refine SX.seq ?_
        refine SX.region ?_
        refine SXL.assign rfl ?_
        refine SXL.assign rfl ?_
        refine SXL.nil ?_
        refine thenQ.normal ?_
        refine SX.ret ?_
        refine blockQ.ret ?_
        refine thenQ.ret ?_
        refine retQ.two (ResAt.tmp rfl) (ResAt.tmp rfl) ?_
        rw [knownV, if_neg c17, if_neg c22, if_pos c26, Decidable.not_not.1 c17]
      · refine SX.skip ?_
        refine blockQ.normal ?_
        refine thenQ.normal ?_
        refine SX.seq ?_
        refine SX.region ?_
        refine SXL.assign rfl ?_
        refine SXL.assign rfl ?_
        refine SXL.nil ?_
        refine thenQ.normal ?_
        refine SX.ret ?_
        refine retQ.two (ResAt.tmp rfl) (ResAt.tmp rfl) ?_
        rw [knownV, if_neg c17, if_neg c22, if_neg c26, Decidable.not_not.1 c17]
end Go.Proofs.YtknflipongbngaaDoor
