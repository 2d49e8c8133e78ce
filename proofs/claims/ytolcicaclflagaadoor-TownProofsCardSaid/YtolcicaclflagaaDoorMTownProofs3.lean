/- Texts of the proof, merged: S5, S6, U1, XVar, XStop, XB, XCv, XBit, P12, P14, P16, P17, P18, P19, T7, TD2, U2, XMap, U3, T8, U4, T9. -/
import Derived.Test.YtolcicaclflagaaDoorMTownProofs2
/- The walks of functions. -/
namespace Go.Proofs.YtolcicaclflagaaDoor
open Go.X Go.S Go.RowKit
theorem asked_any (s : Sp) (bo ro : Option Addr) (bc rc : Nat) (p : Prop) [Decidable p] (e : Int) (hb : s.book.length ≤ 1000000) (hr : s.reads.length ≤ 1000000) (w : World) (hg : Gl w) (hs : SpAt w s bo ro) :
    CallsR Tryd.prog 108 [.agg ⟨[.int .i64 s.weeks, .int .i64 s.most, .int .i64 s.fall, .int .i64 s.a0, .int .i64 s.a1, .int .i64 s.w0, .int .i64 s.w1, (.slice bo s.book.length bc), (.slice ro s.reads.length rc)]⟩, .bool (decide (p)), .int .i64 e] w (fun v _ => AskR s bo ro bc rc p e v) := by
  refine CallsR.of_SX (n := 38) (rs := [.cell 6 150, .cell 7 148, .tmp 8]) Tryd.func108 rfl rfl rfl rfl ?_
  show SX _ _ _ ⟨[(0, .agg ⟨[.int .i64 s.weeks, .int .i64 s.most, .int .i64 s.fall, .int .i64 s.a0, .int .i64 s.a1, .int .i64 s.w0, .int .i64 s.w1, (.slice bo s.book.length bc), (.slice ro s.reads.length rc)]⟩), (1, .bool (decide (p))), (2, .int .i64 e)], [], []⟩
  refine SX.seq ?_
  refine SX.region ?_
  refine SXL.box rfl rfl ?_; intro b0
  refine SXL.alloc zp_150 ?_; intro b1
  refine SXL.alloc zp_148 ?_; intro b2
  refine SXL.assign rfl ?_
  refine SXL.nil ?_
  refine thenQ.normal ?_
  refine SX.seq ?_
  refine SX.seq ?_
  refine SX.region ?_
  refine SXL.loadNo 0 sh_68 rfl rfl rfl ?_
  refine SXL.call1 (.int .i64 (if SpP s then 0 else 10)) fn_112 rfl (fun w hI => scheck_any s bo ro _ _ hb hr _ (hg.inv hI) (hs.inv hI)) ?_
  refine SXL.assign rfl ?_
  refine SXL.nil ?_
  refine thenQ.normal ?_
  refine SX.seq ?_
  refine SX.region ?_
  refine SXL.move rfl ?_
  refine SXL.neqI rfl rfl ?_
  refine SXL.nil ?_
  refine thenQ.normal ?_
  refine SX.condP rfl (fun c16 => ?_) (fun c16 => ?_)
  · refine SX.seq ?_
    refine SX.region ?_
    refine SXL.buildS pl_150 zp_150 rfl rfl ?_
    refine SXL.buildA ae_148 zp_148 rfl rfl ?_
    refine SXL.move rfl ?_
    refine SXL.store 1 sz_150 rfl rfl rfl rfl rfl rfl ?_
    refine SXL.store 2 sz_148 rfl rfl rfl rfl rfl rfl ?_
    refine SXL.assign rfl ?_
    refine SXL.nil ?_
    refine thenQ.normal ?_
    refine SX.ret ?_
    refine thenQ.ret ?_
    refine retQ.three (ResAt.cellNo 1 sh_150 rfl rfl rfl) (ResAt.cellNo 2 sh_148 rfl rfl rfl) (ResAt.tmp rfl) ?_
    have hv : ¬SpP s := fun h => c16 (by rw [if_pos h])
    exact ⟨_, List.replicate 20 0, rfl, rfl, rfl, by rw [askE, if_pos hv, if_neg hv]; rfl, fun h => absurd h hv⟩
  · refine SX.skip ?_
    refine thenQ.normal ?_
    refine SX.seq ?_
    refine SX.seq ?_
    have hv : SpP s := Decidable.byContradiction fun h => c16 (by rw [if_neg h]; omega)
    refine SX.region ?_
    refine SXL.move rfl ?_
    refine SXL.not rfl ?_
    refine SXL.nil ?_
    refine thenQ.normal ?_
    refine SX.condP rfl (fun c21 => ?_) (fun c21 => ?_)
    · refine SX.seq ?_
      refine SX.region ?_
      refine SXL.buildS pl_150 zp_150 rfl rfl ?_
      refine SXL.buildA ae_148 zp_148 rfl rfl ?_
      refine SXL.move rfl ?_
      refine SXL.store 1 sz_150 rfl rfl rfl rfl rfl rfl ?_
      refine SXL.store 2 sz_148 rfl rfl rfl rfl rfl rfl ?_
      refine SXL.assign rfl ?_
      refine SXL.nil ?_
      refine thenQ.normal ?_
      refine SX.ret ?_
      refine thenQ.ret ?_
      refine retQ.three (ResAt.cellNo 1 sh_150 rfl rfl rfl) (ResAt.cellNo 2 sh_148 rfl rfl rfl) (ResAt.tmp rfl) ?_
      exact ⟨_, List.replicate 20 0, rfl, rfl, rfl, by rw [askE, if_neg (by simpa using hv), if_pos c21]; rfl, fun _ h => absurd h c21⟩
    · refine SX.skip ?_
      refine thenQ.normal ?_
      refine SX.seq ?_
      refine SX.region ?_
      refine SXL.loadNo 0 sh_68 rfl rfl rfl ?_
      refine SXL.call1 (.agg ⟨watC s bo ro bc rc (flL s)⟩) fn_113 rfl (fun w hI => flowing_any s bo ro bc rc hv _ (hg.inv hI) (hs.inv hI)) ?_
      refine SXL.alloc zp_150 ?_; intro b3
      refine SXL.store 3 sz_150 rfl rfl rfl rfl (watC_len (by simp [flL])) (putAt_all _ _ (watC_len (by simp [flL]))) ?_ (watC_one _ _ _ _ _ _)
      refine SXL.nil ?_
      refine thenQ.normal ?_
      refine SX.seq ?_
      refine SX.region ?_
      refine SXL.loadNo 3 sh_150 rfl rfl (takeAt_full (watC_len (by simp [flL]))) ?_
      refine SXL.call1 (.tuple ⟨[.agg ⟨ints (outL s.weeks.toNat (lvsL s (baseL s) (rnsL s (baseL s))))⟩, .bool (decide (rnsL s (baseL s) ≠ []))]⟩) fn_114 rfl (fun w hI => spans_any s bo ro bc rc (flL s) (baseL s) hv (relW hv) _ (hg.inv hI) (hs.inv hI)) ?_
      refine SXL.move rfl ?_
      refine SXL.extract rfl rfl ?_
      refine SXL.extract rfl rfl ?_
      refine SXL.alloc zp_148 ?_; intro b4
      refine SXL.store 4 sz_148 rfl rfl rfl rfl (by simp [outL]) (putAt_all _ _ (by simp [outL])) ?_ (ints_isOne _)
      refine SXL.assign rfl ?_
      refine SXL.nil ?_
      refine thenQ.normal ?_
      refine SX.seq ?_
      refine SX.seq ?_
      refine SX.region ?_
      refine SXL.move rfl ?_
      refine SXL.not rfl ?_
      refine SXL.nil ?_
      refine thenQ.normal ?_
      refine SX.condP rfl (fun c33 => ?_) (fun c33 => ?_)
      · refine SX.seq ?_
        refine SX.region ?_
        refine SXL.buildS pl_150 zp_150 rfl rfl ?_
        refine SXL.buildA ae_148 zp_148 rfl rfl ?_
        refine SXL.store 1 sz_150 rfl rfl rfl rfl rfl rfl ?_
        refine SXL.store 2 sz_148 rfl rfl rfl rfl rfl rfl ?_
        refine SXL.assign rfl ?_
        refine SXL.nil ?_
        refine thenQ.normal ?_
        refine SX.ret ?_
        refine thenQ.ret ?_
        refine retQ.three (ResAt.cellNo 1 sh_150 rfl rfl rfl) (ResAt.cellNo 2 sh_148 rfl rfl rfl) (ResAt.tmp rfl) ?_
        exact ⟨_, List.replicate 20 0, rfl, rfl, rfl, by rw [askE, if_neg (by simpa using hv), if_neg c21, if_neg c33]; rfl, fun _ _ h => absurd h c33⟩
      · refine SX.skip ?_
        refine thenQ.normal ?_
        refine SX.seq ?_
        refine SX.draw 5 (by kernel_rfl) (by kernel_rfl) ⟨[1, 3, 4], [true, false, false]⟩ ?_
        refine SXA.take 0 1 rfl (by kernel_rfl) rfl ?_
        refine SXL.loadNo 3 sh_150 rfl rfl (takeAt_full (watC_len (by simp [flL]))) ?_
        refine SXL.nil ⟨rfl, rfl, rfl, ?_⟩
        refine SXA.takeM 1 1 rfl (by kernel_rfl) rfl ?_
        refine SXL.loadNo 2 sh_148 rfl rfl (takeAt_full (by simp [outL])) ?_
        refine SXL.nil ⟨rfl, rfl, rfl, ?_⟩
        refine SXA.all [2] (by kernel_rfl) rfl ⟨⟨?_, rfl⟩, trivial⟩
        refine (show SXL _ _ [_] _ _ from ?_)
        refine SXL.store 1 sz_150 rfl rfl rfl rfl (watC_len (by simp [flL])) (putAt_all _ _ (watC_len (by simp [flL]))) ?_ (watC_one _ _ _ _ _ _)
        refine SXL.nil (stepQ.mkL _ (by kernel_rfl) rfl rfl ?_)
        refine SXA.all [3] (by kernel_rfl) rfl ⟨⟨?_, rfl⟩, trivial⟩
        refine (show SXL _ _ [_] _ _ from ?_)
        refine SXL.store 2 sz_148 rfl rfl rfl rfl (by simp [outL]) (putAt_all _ _ (by simp [outL])) ?_ (ints_isOne _)
        refine SXL.nil (stepQ.mkL _ (by kernel_rfl) rfl rfl ?_)
        refine SXA.takeM 4 1 rfl (by kernel_rfl) rfl ?_
        refine SXL.assign rfl ?_
        refine SXL.nil ⟨rfl, rfl, rfl, ?_⟩
        refine SXA.done (by kernel_rfl) ?_
        refine SXL.nil ?_
        refine thenQ.normal ?_
        refine SX.ret ?_
        refine retQ.three (ResAt.cellNo 1 sh_150 rfl rfl (takeAt_full (watC_len (by simp [flL])))) (ResAt.cellNo 2 sh_148 rfl rfl (takeAt_full (k := 20) (by simp [outL]))) (ResAt.tmp rfl) ?_
        exact ⟨_, outA s, watC_len (by simp [flL]), watC_one _ _ _ _ _ _, by simp [outA, outL], by rw [askE, if_neg (by simpa using hv), if_neg c21, if_pos (Decidable.not_not.1 c33)]; rfl, fun _ _ _ => ⟨rfl, rfl⟩⟩
end Go.Proofs.YtolcicaclflagaaDoor

/- The walks of functions. -/
namespace Go.Proofs.YtolcicaclflagaaDoor
open Go.X Go.S Go.RowKit
set_option maxHeartbeats 4000000 in
theorem sgives_any (s : Sp) (bo ro : Option Addr) (bc rc : Nat) (week : Int) (hb : s.book.length ≤ 1000000) (hr : s.reads.length ≤ 1000000) (w : World) (hg : Gl w) (hs : SpAt w s bo ro) :
    CallsR Tryd.prog 104 [.agg ⟨[.int .i64 s.weeks, .int .i64 s.most, .int .i64 s.fall, .int .i64 s.a0, .int .i64 s.a1, .int .i64 s.w0, .int .i64 s.w1, (.slice bo s.book.length bc), (.slice ro s.reads.length rc)]⟩, .int .i64 week] w (fun v _ => v = .tuple ⟨[.agg ⟨[.int .i64 ((givesLo s week)), .int .i64 ((givesHi s week))]⟩, .int .i64 (toldE s week)]⟩) := by
  have hp : SpP s → (Wi week 0 (IntKind.i64.wrap (s.weeks - 1)) ↔ Wi week 0 (s.weeks - 1)) := fun hv => by
    have hH := hv.1; unfold HeadP at hH; rw [wrap_in (by omega)]
  have hA : askE s (Wi week 0 (IntKind.i64.wrap (s.weeks - 1))) 11 = toldE s week := askE_told hp
  refine CallsR.of_SX (n := 28) (rs := [.cell 4 55, .tmp 5]) Tryd.func104 rfl rfl rfl rfl ?_
  show SX _ _ _ ⟨[(0, .agg ⟨[.int .i64 s.weeks, .int .i64 s.most, .int .i64 s.fall, .int .i64 s.a0, .int .i64 s.a1, .int .i64 s.w0, .int .i64 s.w1, (.slice bo s.book.length bc), (.slice ro s.reads.length rc)]⟩), (1, .int .i64 week)], [], []⟩
  refine SX.seq ?_
  refine SX.region ?_
  refine SXL.box rfl rfl ?_; intro b0
  refine SXL.alloc zp_55 ?_; intro b1
  refine SXL.assign rfl ?_
  refine SXL.nil ?_
  refine thenQ.normal ?_
  refine SX.seq ?_
  refine SX.draw 17 (by kernel_rfl) (by kernel_rfl) ⟨[10, 11, 15, 16], [true, true, false, false, false]⟩ ?_
  refine SXA.take 0 5 rfl (by kernel_rfl) rfl ?_
  refine SXL.loadNo 0 sh_68 rfl rfl rfl ?_
  refine SXL.fieldAddr fp_68_0 rfl ?_
  refine SXL.load1o 0 sh_3 rfl rfl rfl ?_
  refine SXL.subW rfl rfl ?_
  refine SXL.move rfl ?_
  refine SXL.nil ⟨rfl, rfl, rfl, ?_⟩
  refine SXA.all [5, 12, 13] (by kernel_rfl) rfl ⟨⟨?_, rfl⟩, ⟨?_, rfl⟩, ⟨?_, rfl⟩, trivial⟩
  · refine (show SXL _ _ [_] _ _ from ?_)
    refine SXL.buildSlice et_33 zp_3 rfl rfl rfl rfl ?_; intro b2
    refine SXL.nil (stepQ.mk _ rfl rfl ?_)
    refine SXA.take 6 1 rfl (by kernel_rfl) rfl ?_
    refine SXL.call1 (.bool (decide (Wi week 0 (IntKind.i64.wrap (s.weeks - 1))))) fn_109 rfl (fun w hI => in1_own hI 2 week 0 (IntKind.i64.wrap (s.weeks - 1)) rfl) ?_
    refine SXL.nil ⟨rfl, rfl, rfl, ?_⟩
    refine SXA.all [7, 12, 13] (by kernel_rfl) rfl ⟨⟨?_, rfl⟩, ⟨?_, rfl⟩, ⟨?_, rfl⟩, trivial⟩
    · refine (show SXL _ _ [_] _ _ from ?_)
      refine SXL.callP (AskR s bo ro bc rc (Wi week 0 (IntKind.i64.wrap (s.weeks - 1))) 11) fn_108 rfl (fun w hI => asked_any s bo ro bc rc (Wi week 0 (IntKind.i64.wrap (s.weeks - 1))) 11 hb hr w (hg.inv hI) (hs.inv hI)) ?_; rintro _ ⟨W, O, hW1, hW2, hO, rfl, hok⟩
      refine SXL.nil (stepQ.mk _ rfl rfl ?_)
      refine SXA.take 8 2 rfl (by kernel_rfl) rfl ?_
      refine SXL.move rfl ?_
      refine SXL.extract rfl rfl ?_
      refine SXL.nil ⟨rfl, rfl, rfl, ?_⟩
      refine SXA.takeM 10 2 rfl (by kernel_rfl) rfl ?_
      refine SXL.extract rfl rfl ?_
      refine SXL.extract rfl rfl ?_
      refine SXL.nil ⟨rfl, rfl, rfl, ?_⟩
      refine SXA.all [12, 13] (by kernel_rfl) rfl ⟨⟨?_, rfl⟩, ⟨?_, rfl⟩, trivial⟩
      · refine (show SXL _ _ [_] _ _ from ?_)
        refine SXL.alloc zp_150 ?_; intro b3
        refine SXL.nil (stepQ.mk _ rfl rfl ?_)
        refine SXA.all [13] (by kernel_rfl) rfl ⟨⟨?_, rfl⟩, trivial⟩
        refine (show SXL _ _ [_] _ _ from ?_)
        refine SXL.alloc zp_148 ?_; intro b4
        refine SXL.nil (stepQ.mk _ rfl rfl ?_)
        refine SXA.all [14] (by kernel_rfl) rfl ⟨⟨?_, rfl⟩, trivial⟩
        refine (show SXL _ _ [_] _ _ from ?_)
        refine SXL.store 3 sz_150 rfl rfl rfl rfl hW1 (putAt_all _ _ (by simp [hW1])) ?_ hW2
        refine SXL.nil (stepQ.mkL _ (by kernel_rfl) rfl rfl ?_)
        refine SXA.all [15] (by kernel_rfl) rfl ⟨⟨?_, rfl⟩, trivial⟩
        refine (show SXL _ _ [_] _ _ from ?_)
        refine SXL.store 4 sz_148 rfl rfl rfl rfl (by simp [hO]) (putAt_all _ _ (by simp [hO])) ?_ (ints_isOne _)
        refine SXL.nil (stepQ.mkL _ (by kernel_rfl) rfl rfl ?_)
        refine SXA.takeM 16 1 rfl (by kernel_rfl) rfl ?_
        refine SXL.assign rfl ?_
        refine SXL.nil ⟨rfl, rfl, rfl, ?_⟩
        refine SXA.done (by kernel_rfl) ?_
        refine SXL.nil ?_
        refine thenQ.normal ?_
        refine SX.seq ?_
        refine SX.seq ?_
        refine SX.region ?_
        refine SXL.move rfl ?_
        refine SXL.neqI rfl rfl ?_
        refine SXL.nil ?_
        refine thenQ.normal ?_
        refine SX.condP rfl (fun c22 => ?_) (fun c22 => ?_)
        · refine SX.seq ?_
          refine SX.region ?_
          refine SXL.buildS pl_55 zp_55 rfl rfl ?_
          refine SXL.move rfl ?_
          refine SXL.store 1 sz_55 rfl rfl rfl rfl rfl rfl ?_
          refine SXL.assign rfl ?_
          refine SXL.nil ?_
          refine thenQ.normal ?_
          refine SX.ret ?_
          refine thenQ.ret ?_
          refine retQ.two (ResAt.cellNo 1 sh_55 rfl rfl rfl) (ResAt.tmp rfl) ?_
          rw [givesLo, givesHi, ← hA, if_neg c22, if_neg c22]
        · refine SX.skip ?_
          refine thenQ.normal ?_
          refine SX.seq ?_
          have hc22 := Decidable.not_not.1 c22
          obtain ⟨hv, hwk, ht⟩ := toldE_valid (hA ▸ hc22)
          obtain ⟨rfl, rfl⟩ := hok hv ((hp hv).2 hwk) ht
          obtain ⟨g1, g2⟩ := outA_at (hA ▸ hc22)
          have hH := hv.1
          unfold HeadP at hH
          refine SX.region ?_
          refine SXL.move rfl ?_
          refine SXL.indexA el_148 rfl rfl (by omega) ?_
          refine SXL.loadNo 4 sh_55 rfl rfl (ints_take2' (M := outA s) (i := week.toNat) (by omega) (by rw [hO]; omega)) ?_
          refine SXL.store 1 sz_55 rfl rfl rfl rfl rfl rfl ?_
          refine SXL.assign rfl ?_
          refine SXL.nil ?_
          refine thenQ.normal ?_
          refine SX.ret ?_
          refine retQ.two (ResAt.cellNo 1 sh_55 rfl rfl rfl) (ResAt.tmp rfl) ?_
          rw [← hA, hc22, g1, g2]
      · refine (show SXL _ _ [_] _ _ from ?_)
        refine SXL.alloc zp_148 ?_; intro b3
        refine SXL.nil (stepQ.mk _ rfl rfl ?_)
        refine SXA.all [12] (by kernel_rfl) rfl ⟨⟨?_, rfl⟩, trivial⟩
        refine (show SXL _ _ [_] _ _ from ?_)
        refine SXL.alloc zp_150 ?_; intro b4
        refine SXL.nil (stepQ.mk _ rfl rfl ?_)
        refine SXA.all [14] (by kernel_rfl) rfl ⟨⟨?_, rfl⟩, trivial⟩
        refine (show SXL _ _ [_] _ _ from ?_)
        refine SXL.store 4 sz_150 rfl rfl rfl rfl hW1 (putAt_all _ _ (by simp [hW1])) ?_ hW2
        refine SXL.nil (stepQ.mkL _ (by kernel_rfl) rfl rfl ?_)
        refine SXA.all [15] (by kernel_rfl) rfl ⟨⟨?_, rfl⟩, trivial⟩
        refine (show SXL _ _ [_] _ _ from ?_)
        refine SXL.store 3 sz_148 rfl rfl rfl rfl (by simp [hO]) (putAt_all _ _ (by simp [hO])) ?_ (ints_isOne _)
        refine SXL.nil (stepQ.mkL _ (by kernel_rfl) rfl rfl ?_)
        refine SXA.takeM 16 1 rfl (by kernel_rfl) rfl ?_
        refine SXL.assign rfl ?_
        refine SXL.nil ⟨rfl, rfl, rfl, ?_⟩
        refine SXA.done (by kernel_rfl) ?_
        refine SXL.nil ?_
        refine thenQ.normal ?_
        refine SX.seq ?_
        refine SX.seq ?_
        refine SX.region ?_
        refine SXL.move rfl ?_
        refine SXL.neqI rfl rfl ?_
        refine SXL.nil ?_
        refine thenQ.normal ?_
        refine SX.condP rfl (fun c22 => ?_) (fun c22 => ?_)
        · refine SX.seq ?_
          refine SX.region ?_
          refine SXL.buildS pl_55 zp_55 rfl rfl ?_
          refine SXL.move rfl ?_
          refine SXL.store 1 sz_55 rfl rfl rfl rfl rfl rfl ?_
          refine SXL.assign rfl ?_
          refine SXL.nil ?_
          refine thenQ.normal ?_
          refine SX.ret ?_
          refine thenQ.ret ?_
          refine retQ.two (ResAt.cellNo 1 sh_55 rfl rfl rfl) (ResAt.tmp rfl) ?_
          rw [givesLo, givesHi, ← hA, if_neg c22, if_neg c22]
        · refine SX.skip ?_
          refine thenQ.normal ?_
          refine SX.seq ?_
          have hc22 := Decidable.not_not.1 c22
          obtain ⟨hv, hwk, ht⟩ := toldE_valid (hA ▸ hc22)
          obtain ⟨rfl, rfl⟩ := hok hv ((hp hv).2 hwk) ht
          obtain ⟨g1, g2⟩ := outA_at (hA ▸ hc22)
          have hH := hv.1
          unfold HeadP at hH
          refine SX.region ?_
          refine SXL.move rfl ?_
          refine SXL.indexA el_148 rfl rfl (by omega) ?_
          refine SXL.loadNo 3 sh_55 rfl rfl (ints_take2' (M := outA s) (i := week.toNat) (by omega) (by rw [hO]; omega)) ?_
          refine SXL.store 1 sz_55 rfl rfl rfl rfl rfl rfl ?_
          refine SXL.assign rfl ?_
          refine SXL.nil ?_
          refine thenQ.normal ?_
          refine SX.ret ?_
          refine retQ.two (ResAt.cellNo 1 sh_55 rfl rfl rfl) (ResAt.tmp rfl) ?_
          rw [← hA, hc22, g1, g2]
    · refine (show SXL _ _ [_] _ _ from ?_)
      refine SXL.alloc zp_150 ?_; intro b3
      refine SXL.nil (stepQ.mk _ rfl rfl ?_)
      refine SXA.all [7, 13] (by kernel_rfl) rfl ⟨⟨?_, rfl⟩, ⟨?_, rfl⟩, trivial⟩
      · refine (show SXL _ _ [_] _ _ from ?_)
        refine SXL.callP (AskR s bo ro bc rc (Wi week 0 (IntKind.i64.wrap (s.weeks - 1))) 11) fn_108 rfl (fun w hI => asked_any s bo ro bc rc (Wi week 0 (IntKind.i64.wrap (s.weeks - 1))) 11 hb hr w (hg.inv hI) (hs.inv hI)) ?_; rintro _ ⟨W, O, hW1, hW2, hO, rfl, hok⟩
        refine SXL.nil (stepQ.mk _ rfl rfl ?_)
        refine SXA.take 8 2 rfl (by kernel_rfl) rfl ?_
        refine SXL.move rfl ?_
        refine SXL.extract rfl rfl ?_
        refine SXL.nil ⟨rfl, rfl, rfl, ?_⟩
        refine SXA.takeM 10 2 rfl (by kernel_rfl) rfl ?_
        refine SXL.extract rfl rfl ?_
        refine SXL.extract rfl rfl ?_
        refine SXL.nil ⟨rfl, rfl, rfl, ?_⟩
        refine SXA.all [13] (by kernel_rfl) rfl ⟨⟨?_, rfl⟩, trivial⟩
        refine (show SXL _ _ [_] _ _ from ?_)
        refine SXL.alloc zp_148 ?_; intro b4
        refine SXL.nil (stepQ.mk _ rfl rfl ?_)
        refine SXA.all [14] (by kernel_rfl) rfl ⟨⟨?_, rfl⟩, trivial⟩
        refine (show SXL _ _ [_] _ _ from ?_)
        refine SXL.store 3 sz_150 rfl rfl rfl rfl hW1 (putAt_all _ _ (by simp [hW1])) ?_ hW2
        refine SXL.nil (stepQ.mkL _ (by kernel_rfl) rfl rfl ?_)
        refine SXA.all [15] (by kernel_rfl) rfl ⟨⟨?_, rfl⟩, trivial⟩
        refine (show SXL _ _ [_] _ _ from ?_)
        refine SXL.store 4 sz_148 rfl rfl rfl rfl (by simp [hO]) (putAt_all _ _ (by simp [hO])) ?_ (ints_isOne _)
        refine SXL.nil (stepQ.mkL _ (by kernel_rfl) rfl rfl ?_)
        refine SXA.takeM 16 1 rfl (by kernel_rfl) rfl ?_
        refine SXL.assign rfl ?_
        refine SXL.nil ⟨rfl, rfl, rfl, ?_⟩
        refine SXA.done (by kernel_rfl) ?_
        refine SXL.nil ?_
        refine thenQ.normal ?_
        refine SX.seq ?_
        refine SX.seq ?_
        refine SX.region ?_
        refine SXL.move rfl ?_
        refine SXL.neqI rfl rfl ?_
        refine SXL.nil ?_
        refine thenQ.normal ?_
        refine SX.condP rfl (fun c22 => ?_) (fun c22 => ?_)
        · refine SX.seq ?_
          refine SX.region ?_
          refine SXL.buildS pl_55 zp_55 rfl rfl ?_
          refine SXL.move rfl ?_
          refine SXL.store 1 sz_55 rfl rfl rfl rfl rfl rfl ?_
          refine SXL.assign rfl ?_
          refine SXL.nil ?_
          refine thenQ.normal ?_
          refine SX.ret ?_
          refine thenQ.ret ?_
          refine retQ.two (ResAt.cellNo 1 sh_55 rfl rfl rfl) (ResAt.tmp rfl) ?_
          rw [givesLo, givesHi, ← hA, if_neg c22, if_neg c22]
        · refine SX.skip ?_
          refine thenQ.normal ?_
          refine SX.seq ?_
          have hc22 := Decidable.not_not.1 c22
          obtain ⟨hv, hwk, ht⟩ := toldE_valid (hA ▸ hc22)
          obtain ⟨rfl, rfl⟩ := hok hv ((hp hv).2 hwk) ht
          obtain ⟨g1, g2⟩ := outA_at (hA ▸ hc22)
          have hH := hv.1
          unfold HeadP at hH
          refine SX.region ?_
          refine SXL.move rfl ?_
          refine SXL.indexA el_148 rfl rfl (by omega) ?_
          refine SXL.loadNo 4 sh_55 rfl rfl (ints_take2' (M := outA s) (i := week.toNat) (by omega) (by rw [hO]; omega)) ?_
          refine SXL.store 1 sz_55 rfl rfl rfl rfl rfl rfl ?_
          refine SXL.assign rfl ?_
          refine SXL.nil ?_
          refine thenQ.normal ?_
          refine SX.ret ?_
          refine retQ.two (ResAt.cellNo 1 sh_55 rfl rfl rfl) (ResAt.tmp rfl) ?_
          rw [← hA, hc22, g1, g2]
      · refine (show SXL _ _ [_] _ _ from ?_)
        refine SXL.alloc zp_148 ?_; intro b4
        refine SXL.nil (stepQ.mk _ rfl rfl ?_)
        refine SXA.all [7] (by kernel_rfl) rfl ⟨⟨?_, rfl⟩, trivial⟩
        refine (show SXL _ _ [_] _ _ from ?_)
        refine SXL.callP (AskR s bo ro bc rc (Wi week 0 (IntKind.i64.wrap (s.weeks - 1))) 11) fn_108 rfl (fun w hI => asked_any s bo ro bc rc (Wi week 0 (IntKind.i64.wrap (s.weeks - 1))) 11 hb hr w (hg.inv hI) (hs.inv hI)) ?_; rintro _ ⟨W, O, hW1, hW2, hO, rfl, hok⟩
        refine SXL.nil (stepQ.mk _ rfl rfl ?_)
        refine SXA.take 8 2 rfl (by kernel_rfl) rfl ?_
        refine SXL.move rfl ?_
        refine SXL.extract rfl rfl ?_
        refine SXL.nil ⟨rfl, rfl, rfl, ?_⟩
        refine SXA.takeM 10 2 rfl (by kernel_rfl) rfl ?_
        refine SXL.extract rfl rfl ?_
        refine SXL.extract rfl rfl ?_
        refine SXL.nil ⟨rfl, rfl, rfl, ?_⟩
        refine SXA.all [14] (by kernel_rfl) rfl ⟨⟨?_, rfl⟩, trivial⟩
        refine (show SXL _ _ [_] _ _ from ?_)
        refine SXL.store 3 sz_150 rfl rfl rfl rfl hW1 (putAt_all _ _ (by simp [hW1])) ?_ hW2
        refine SXL.nil (stepQ.mkL _ (by kernel_rfl) rfl rfl ?_)
        refine SXA.all [15] (by kernel_rfl) rfl ⟨⟨?_, rfl⟩, trivial⟩
        refine (show SXL _ _ [_] _ _ from ?_)
        refine SXL.store 4 sz_148 rfl rfl rfl rfl (by simp [hO]) (putAt_all _ _ (by simp [hO])) ?_ (ints_isOne _)
        refine SXL.nil (stepQ.mkL _ (by kernel_rfl) rfl rfl ?_)
        refine SXA.takeM 16 1 rfl (by kernel_rfl) rfl ?_
        refine SXL.assign rfl ?_
        refine SXL.nil ⟨rfl, rfl, rfl, ?_⟩
        refine SXA.done (by kernel_rfl) ?_
        refine SXL.nil ?_
        refine thenQ.normal ?_
        refine SX.seq ?_
        refine SX.seq ?_
        refine SX.region ?_
        refine SXL.move rfl ?_
        refine SXL.neqI rfl rfl ?_
        refine SXL.nil ?_
        refine thenQ.normal ?_
        refine SX.condP rfl (fun c22 => ?_) (fun c22 => ?_)
        · refine SX.seq ?_
          refine SX.region ?_
          refine SXL.buildS pl_55 zp_55 rfl rfl ?_
          refine SXL.move rfl ?_
          refine SXL.store 1 sz_55 rfl rfl rfl rfl rfl rfl ?_
          refine SXL.assign rfl ?_
          refine SXL.nil ?_
          refine thenQ.normal ?_
          refine SX.ret ?_
          refine thenQ.ret ?_
          refine retQ.two (ResAt.cellNo 1 sh_55 rfl rfl rfl) (ResAt.tmp rfl) ?_
          rw [givesLo, givesHi, ← hA, if_neg c22, if_neg c22]
        · refine SX.skip ?_
          refine thenQ.normal ?_
          refine SX.seq ?_
          have hc22 := Decidable.not_not.1 c22
          obtain ⟨hv, hwk, ht⟩ := toldE_valid (hA ▸ hc22)
          obtain ⟨rfl, rfl⟩ := hok hv ((hp hv).2 hwk) ht
          obtain ⟨g1, g2⟩ := outA_at (hA ▸ hc22)
          have hH := hv.1
          unfold HeadP at hH
          refine SX.region ?_
          refine SXL.move rfl ?_
          refine SXL.indexA el_148 rfl rfl (by omega) ?_
          refine SXL.loadNo 4 sh_55 rfl rfl (ints_take2' (M := outA s) (i := week.toNat) (by omega) (by rw [hO]; omega)) ?_
          refine SXL.store 1 sz_55 rfl rfl rfl rfl rfl rfl ?_
          refine SXL.assign rfl ?_
          refine SXL.nil ?_
          refine thenQ.normal ?_
          refine SX.ret ?_
          refine retQ.two (ResAt.cellNo 1 sh_55 rfl rfl rfl) (ResAt.tmp rfl) ?_
          rw [← hA, hc22, g1, g2]
    · refine (show SXL _ _ [_] _ _ from ?_)
      refine SXL.alloc zp_148 ?_; intro b3
      refine SXL.nil (stepQ.mk _ rfl rfl ?_)
      refine SXA.all [7, 12] (by kernel_rfl) rfl ⟨⟨?_, rfl⟩, ⟨?_, rfl⟩, trivial⟩
      · refine (show SXL _ _ [_] _ _ from ?_)
        refine SXL.callP (AskR s bo ro bc rc (Wi week 0 (IntKind.i64.wrap (s.weeks - 1))) 11) fn_108 rfl (fun w hI => asked_any s bo ro bc rc (Wi week 0 (IntKind.i64.wrap (s.weeks - 1))) 11 hb hr w (hg.inv hI) (hs.inv hI)) ?_; rintro _ ⟨W, O, hW1, hW2, hO, rfl, hok⟩
        refine SXL.nil (stepQ.mk _ rfl rfl ?_)
        refine SXA.take 8 2 rfl (by kernel_rfl) rfl ?_
        refine SXL.move rfl ?_
        refine SXL.extract rfl rfl ?_
        refine SXL.nil ⟨rfl, rfl, rfl, ?_⟩
        refine SXA.takeM 10 2 rfl (by kernel_rfl) rfl ?_
        refine SXL.extract rfl rfl ?_
        refine SXL.extract rfl rfl ?_
        refine SXL.nil ⟨rfl, rfl, rfl, ?_⟩
        refine SXA.all [12] (by kernel_rfl) rfl ⟨⟨?_, rfl⟩, trivial⟩
        refine (show SXL _ _ [_] _ _ from ?_)
        refine SXL.alloc zp_150 ?_; intro b4
        refine SXL.nil (stepQ.mk _ rfl rfl ?_)
        refine SXA.all [14] (by kernel_rfl) rfl ⟨⟨?_, rfl⟩, trivial⟩
        refine (show SXL _ _ [_] _ _ from ?_)
        refine SXL.store 4 sz_150 rfl rfl rfl rfl hW1 (putAt_all _ _ (by simp [hW1])) ?_ hW2
        refine SXL.nil (stepQ.mkL _ (by kernel_rfl) rfl rfl ?_)
        refine SXA.all [15] (by kernel_rfl) rfl ⟨⟨?_, rfl⟩, trivial⟩
        refine (show SXL _ _ [_] _ _ from ?_)
        refine SXL.store 3 sz_148 rfl rfl rfl rfl (by simp [hO]) (putAt_all _ _ (by simp [hO])) ?_ (ints_isOne _)
        refine SXL.nil (stepQ.mkL _ (by kernel_rfl) rfl rfl ?_)
        refine SXA.takeM 16 1 rfl (by kernel_rfl) rfl ?_
        refine SXL.assign rfl ?_
        refine SXL.nil ⟨rfl, rfl, rfl, ?_⟩
        refine SXA.done (by kernel_rfl) ?_
        refine SXL.nil ?_
        refine thenQ.normal ?_
        refine SX.seq ?_
        refine SX.seq ?_
        refine SX.region ?_
        refine SXL.move rfl ?_
        refine SXL.neqI rfl rfl ?_
        refine SXL.nil ?_
        refine thenQ.normal ?_
        refine SX.condP rfl (fun c22 => ?_) (fun c22 => ?_)
        · refine SX.seq ?_
          refine SX.region ?_
          refine SXL.buildS pl_55 zp_55 rfl rfl ?_
          refine SXL.move rfl ?_
          refine SXL.store 1 sz_55 rfl rfl rfl rfl rfl rfl ?_
          refine SXL.assign rfl ?_
          refine SXL.nil ?_
          refine thenQ.normal ?_
          refine SX.ret ?_
          refine thenQ.ret ?_
          refine retQ.two (ResAt.cellNo 1 sh_55 rfl rfl rfl) (ResAt.tmp rfl) ?_
          rw [givesLo, givesHi, ← hA, if_neg c22, if_neg c22]
        · refine SX.skip ?_
          refine thenQ.normal ?_
          refine SX.seq ?_
          have hc22 := Decidable.not_not.1 c22
          obtain ⟨hv, hwk, ht⟩ := toldE_valid (hA ▸ hc22)
          obtain ⟨rfl, rfl⟩ := hok hv ((hp hv).2 hwk) ht
          obtain ⟨g1, g2⟩ := outA_at (hA ▸ hc22)
          have hH := hv.1
          unfold HeadP at hH
          refine SX.region ?_
          refine SXL.move rfl ?_
          refine SXL.indexA el_148 rfl rfl (by omega) ?_
          refine SXL.loadNo 3 sh_55 rfl rfl (ints_take2' (M := outA s) (i := week.toNat) (by omega) (by rw [hO]; omega)) ?_
          refine SXL.store 1 sz_55 rfl rfl rfl rfl rfl rfl ?_
          refine SXL.assign rfl ?_
          refine SXL.nil ?_
          refine thenQ.normal ?_
          refine SX.ret ?_
          refine retQ.two (ResAt.cellNo 1 sh_55 rfl rfl rfl) (ResAt.tmp rfl) ?_
          rw [← hA, hc22, g1, g2]
      · refine (show SXL _ _ [_] _ _ from ?_)
        refine SXL.alloc zp_150 ?_; intro b4
        refine SXL.nil (stepQ.mk _ rfl rfl ?_)
        refine SXA.all [7] (by kernel_rfl) rfl ⟨⟨?_, rfl⟩, trivial⟩
        refine (show SXL _ _ [_] _ _ from ?_)
        refine SXL.callP (AskR s bo ro bc rc (Wi week 0 (IntKind.i64.wrap (s.weeks - 1))) 11) fn_108 rfl (fun w hI => asked_any s bo ro bc rc (Wi week 0 (IntKind.i64.wrap (s.weeks - 1))) 11 hb hr w (hg.inv hI) (hs.inv hI)) ?_; rintro _ ⟨W, O, hW1, hW2, hO, rfl, hok⟩
        refine SXL.nil (stepQ.mk _ rfl rfl ?_)
        refine SXA.take 8 2 rfl (by kernel_rfl) rfl ?_
        refine SXL.move rfl ?_
        refine SXL.extract rfl rfl ?_
        refine SXL.nil ⟨rfl, rfl, rfl, ?_⟩
        refine SXA.takeM 10 2 rfl (by kernel_rfl) rfl ?_
        refine SXL.extract rfl rfl ?_
        refine SXL.extract rfl rfl ?_
        refine SXL.nil ⟨rfl, rfl, rfl, ?_⟩
        refine SXA.all [14] (by kernel_rfl) rfl ⟨⟨?_, rfl⟩, trivial⟩
        refine (show SXL _ _ [_] _ _ from ?_)
        refine SXL.store 4 sz_150 rfl rfl rfl rfl hW1 (putAt_all _ _ (by simp [hW1])) ?_ hW2
        refine SXL.nil (stepQ.mkL _ (by kernel_rfl) rfl rfl ?_)
        refine SXA.all [15] (by kernel_rfl) rfl ⟨⟨?_, rfl⟩, trivial⟩
        refine (show SXL _ _ [_] _ _ from ?_)
        refine SXL.store 3 sz_148 rfl rfl rfl rfl (by simp [hO]) (putAt_all _ _ (by simp [hO])) ?_ (ints_isOne _)
        refine SXL.nil (stepQ.mkL _ (by kernel_rfl) rfl rfl ?_)
        refine SXA.takeM 16 1 rfl (by kernel_rfl) rfl ?_
        refine SXL.assign rfl ?_
        refine SXL.nil ⟨rfl, rfl, rfl, ?_⟩
        refine SXA.done (by kernel_rfl) ?_
        refine SXL.nil ?_
        refine thenQ.normal ?_
        refine SX.seq ?_
        refine SX.seq ?_
        refine SX.region ?_
        refine SXL.move rfl ?_
        refine SXL.neqI rfl rfl ?_
        refine SXL.nil ?_
        refine thenQ.normal ?_
        refine SX.condP rfl (fun c22 => ?_) (fun c22 => ?_)
        · refine SX.seq ?_
          refine SX.region ?_
          refine SXL.buildS pl_55 zp_55 rfl rfl ?_
          refine SXL.move rfl ?_
          refine SXL.store 1 sz_55 rfl rfl rfl rfl rfl rfl ?_
          refine SXL.assign rfl ?_
          refine SXL.nil ?_
          refine thenQ.normal ?_
          refine SX.ret ?_
          refine thenQ.ret ?_
          refine retQ.two (ResAt.cellNo 1 sh_55 rfl rfl rfl) (ResAt.tmp rfl) ?_
          rw [givesLo, givesHi, ← hA, if_neg c22, if_neg c22]
        · refine SX.skip ?_
          refine thenQ.normal ?_
          refine SX.seq ?_
          have hc22 := Decidable.not_not.1 c22
          obtain ⟨hv, hwk, ht⟩ := toldE_valid (hA ▸ hc22)
          obtain ⟨rfl, rfl⟩ := hok hv ((hp hv).2 hwk) ht
          obtain ⟨g1, g2⟩ := outA_at (hA ▸ hc22)
          have hH := hv.1
          unfold HeadP at hH
          refine SX.region ?_
          refine SXL.move rfl ?_
          refine SXL.indexA el_148 rfl rfl (by omega) ?_
          refine SXL.loadNo 3 sh_55 rfl rfl (ints_take2' (M := outA s) (i := week.toNat) (by omega) (by rw [hO]; omega)) ?_
          refine SXL.store 1 sz_55 rfl rfl rfl rfl rfl rfl ?_
          refine SXL.assign rfl ?_
          refine SXL.nil ?_
          refine thenQ.normal ?_
          refine SX.ret ?_
          refine retQ.two (ResAt.cellNo 1 sh_55 rfl rfl rfl) (ResAt.tmp rfl) ?_
          rw [← hA, hc22, g1, g2]
  · refine (show SXL _ _ [_] _ _ from ?_)
    refine SXL.alloc zp_150 ?_; intro b2
    refine SXL.nil (stepQ.mk _ rfl rfl ?_)
    refine SXA.all [5, 13] (by kernel_rfl) rfl ⟨⟨?_, rfl⟩, ⟨?_, rfl⟩, trivial⟩
    · refine (show SXL _ _ [_] _ _ from ?_)
      refine SXL.buildSlice et_33 zp_3 rfl rfl rfl rfl ?_; intro b3
      refine SXL.nil (stepQ.mk _ rfl rfl ?_)
      refine SXA.take 6 1 rfl (by kernel_rfl) rfl ?_
      refine SXL.call1 (.bool (decide (Wi week 0 (IntKind.i64.wrap (s.weeks - 1))))) fn_109 rfl (fun w hI => in1_own hI 3 week 0 (IntKind.i64.wrap (s.weeks - 1)) rfl) ?_
      refine SXL.nil ⟨rfl, rfl, rfl, ?_⟩
      refine SXA.all [7, 13] (by kernel_rfl) rfl ⟨⟨?_, rfl⟩, ⟨?_, rfl⟩, trivial⟩
      · refine (show SXL _ _ [_] _ _ from ?_)
        refine SXL.callP (AskR s bo ro bc rc (Wi week 0 (IntKind.i64.wrap (s.weeks - 1))) 11) fn_108 rfl (fun w hI => asked_any s bo ro bc rc (Wi week 0 (IntKind.i64.wrap (s.weeks - 1))) 11 hb hr w (hg.inv hI) (hs.inv hI)) ?_; rintro _ ⟨W, O, hW1, hW2, hO, rfl, hok⟩
        refine SXL.nil (stepQ.mk _ rfl rfl ?_)
        refine SXA.take 8 2 rfl (by kernel_rfl) rfl ?_
        refine SXL.move rfl ?_
        refine SXL.extract rfl rfl ?_
        refine SXL.nil ⟨rfl, rfl, rfl, ?_⟩
        refine SXA.takeM 10 2 rfl (by kernel_rfl) rfl ?_
        refine SXL.extract rfl rfl ?_
        refine SXL.extract rfl rfl ?_
        refine SXL.nil ⟨rfl, rfl, rfl, ?_⟩
        refine SXA.all [13] (by kernel_rfl) rfl ⟨⟨?_, rfl⟩, trivial⟩
        refine (show SXL _ _ [_] _ _ from ?_)
        refine SXL.alloc zp_148 ?_; intro b4
        refine SXL.nil (stepQ.mk _ rfl rfl ?_)
        refine SXA.all [14] (by kernel_rfl) rfl ⟨⟨?_, rfl⟩, trivial⟩
        refine (show SXL _ _ [_] _ _ from ?_)
        refine SXL.store 2 sz_150 rfl rfl rfl rfl hW1 (putAt_all _ _ (by simp [hW1])) ?_ hW2
        refine SXL.nil (stepQ.mkL _ (by kernel_rfl) rfl rfl ?_)
        refine SXA.all [15] (by kernel_rfl) rfl ⟨⟨?_, rfl⟩, trivial⟩
        refine (show SXL _ _ [_] _ _ from ?_)
        refine SXL.store 4 sz_148 rfl rfl rfl rfl (by simp [hO]) (putAt_all _ _ (by simp [hO])) ?_ (ints_isOne _)
        refine SXL.nil (stepQ.mkL _ (by kernel_rfl) rfl rfl ?_)
        refine SXA.takeM 16 1 rfl (by kernel_rfl) rfl ?_
        refine SXL.assign rfl ?_
        refine SXL.nil ⟨rfl, rfl, rfl, ?_⟩
        refine SXA.done (by kernel_rfl) ?_
        refine SXL.nil ?_
        refine thenQ.normal ?_
        refine SX.seq ?_
        refine SX.seq ?_
        refine SX.region ?_
        refine SXL.move rfl ?_
        refine SXL.neqI rfl rfl ?_
        refine SXL.nil ?_
        refine thenQ.normal ?_
        refine SX.condP rfl (fun c22 => ?_) (fun c22 => ?_)
        · refine SX.seq ?_
          refine SX.region ?_
          refine SXL.buildS pl_55 zp_55 rfl rfl ?_
          refine SXL.move rfl ?_
          refine SXL.store 1 sz_55 rfl rfl rfl rfl rfl rfl ?_
          refine SXL.assign rfl ?_
          refine SXL.nil ?_
          refine thenQ.normal ?_
          refine SX.ret ?_
          refine thenQ.ret ?_
          refine retQ.two (ResAt.cellNo 1 sh_55 rfl rfl rfl) (ResAt.tmp rfl) ?_
          rw [givesLo, givesHi, ← hA, if_neg c22, if_neg c22]
        · refine SX.skip ?_
          refine thenQ.normal ?_
          refine SX.seq ?_
          have hc22 := Decidable.not_not.1 c22
          obtain ⟨hv, hwk, ht⟩ := toldE_valid (hA ▸ hc22)
          obtain ⟨rfl, rfl⟩ := hok hv ((hp hv).2 hwk) ht
          obtain ⟨g1, g2⟩ := outA_at (hA ▸ hc22)
          have hH := hv.1
          unfold HeadP at hH
          refine SX.region ?_
          refine SXL.move rfl ?_
          refine SXL.indexA el_148 rfl rfl (by omega) ?_
          refine SXL.loadNo 4 sh_55 rfl rfl (ints_take2' (M := outA s) (i := week.toNat) (by omega) (by rw [hO]; omega)) ?_
          refine SXL.store 1 sz_55 rfl rfl rfl rfl rfl rfl ?_
          refine SXL.assign rfl ?_
          refine SXL.nil ?_
          refine thenQ.normal ?_
          refine SX.ret ?_
          refine retQ.two (ResAt.cellNo 1 sh_55 rfl rfl rfl) (ResAt.tmp rfl) ?_
          rw [← hA, hc22, g1, g2]
      · refine (show SXL _ _ [_] _ _ from ?_)
        refine SXL.alloc zp_148 ?_; intro b4
        refine SXL.nil (stepQ.mk _ rfl rfl ?_)
        refine SXA.all [7] (by kernel_rfl) rfl ⟨⟨?_, rfl⟩, trivial⟩
        refine (show SXL _ _ [_] _ _ from ?_)
        refine SXL.callP (AskR s bo ro bc rc (Wi week 0 (IntKind.i64.wrap (s.weeks - 1))) 11) fn_108 rfl (fun w hI => asked_any s bo ro bc rc (Wi week 0 (IntKind.i64.wrap (s.weeks - 1))) 11 hb hr w (hg.inv hI) (hs.inv hI)) ?_; rintro _ ⟨W, O, hW1, hW2, hO, rfl, hok⟩
        refine SXL.nil (stepQ.mk _ rfl rfl ?_)
        refine SXA.take 8 2 rfl (by kernel_rfl) rfl ?_
        refine SXL.move rfl ?_
        refine SXL.extract rfl rfl ?_
        refine SXL.nil ⟨rfl, rfl, rfl, ?_⟩
        refine SXA.takeM 10 2 rfl (by kernel_rfl) rfl ?_
        refine SXL.extract rfl rfl ?_
        refine SXL.extract rfl rfl ?_
        refine SXL.nil ⟨rfl, rfl, rfl, ?_⟩
        refine SXA.all [14] (by kernel_rfl) rfl ⟨⟨?_, rfl⟩, trivial⟩
        refine (show SXL _ _ [_] _ _ from ?_)
        refine SXL.store 2 sz_150 rfl rfl rfl rfl hW1 (putAt_all _ _ (by simp [hW1])) ?_ hW2
        refine SXL.nil (stepQ.mkL _ (by kernel_rfl) rfl rfl ?_)
        refine SXA.all [15] (by kernel_rfl) rfl ⟨⟨?_, rfl⟩, trivial⟩
        refine (show SXL _ _ [_] _ _ from ?_)
        refine SXL.store 4 sz_148 rfl rfl rfl rfl (by simp [hO]) (putAt_all _ _ (by simp [hO])) ?_ (ints_isOne _)
        refine SXL.nil (stepQ.mkL _ (by kernel_rfl) rfl rfl ?_)
        refine SXA.takeM 16 1 rfl (by kernel_rfl) rfl ?_
        refine SXL.assign rfl ?_
        refine SXL.nil ⟨rfl, rfl, rfl, ?_⟩
        refine SXA.done (by kernel_rfl) ?_
        refine SXL.nil ?_
        refine thenQ.normal ?_
        refine SX.seq ?_
        refine SX.seq ?_
        refine SX.region ?_
        refine SXL.move rfl ?_
        refine SXL.neqI rfl rfl ?_
        refine SXL.nil ?_
        refine thenQ.normal ?_
        refine SX.condP rfl (fun c22 => ?_) (fun c22 => ?_)
        · refine SX.seq ?_
          refine SX.region ?_
          refine SXL.buildS pl_55 zp_55 rfl rfl ?_
          refine SXL.move rfl ?_
          refine SXL.store 1 sz_55 rfl rfl rfl rfl rfl rfl ?_
          refine SXL.assign rfl ?_
          refine SXL.nil ?_
          refine thenQ.normal ?_
          refine SX.ret ?_
          refine thenQ.ret ?_
          refine retQ.two (ResAt.cellNo 1 sh_55 rfl rfl rfl) (ResAt.tmp rfl) ?_
          rw [givesLo, givesHi, ← hA, if_neg c22, if_neg c22]
        · refine SX.skip ?_
          refine thenQ.normal ?_
          refine SX.seq ?_
          have hc22 := Decidable.not_not.1 c22
          obtain ⟨hv, hwk, ht⟩ := toldE_valid (hA ▸ hc22)
          obtain ⟨rfl, rfl⟩ := hok hv ((hp hv).2 hwk) ht
          obtain ⟨g1, g2⟩ := outA_at (hA ▸ hc22)
          have hH := hv.1
          unfold HeadP at hH
          refine SX.region ?_
          refine SXL.move rfl ?_
          refine SXL.indexA el_148 rfl rfl (by omega) ?_
          refine SXL.loadNo 4 sh_55 rfl rfl (ints_take2' (M := outA s) (i := week.toNat) (by omega) (by rw [hO]; omega)) ?_
          refine SXL.store 1 sz_55 rfl rfl rfl rfl rfl rfl ?_
          refine SXL.assign rfl ?_
          refine SXL.nil ?_
          refine thenQ.normal ?_
          refine SX.ret ?_
          refine retQ.two (ResAt.cellNo 1 sh_55 rfl rfl rfl) (ResAt.tmp rfl) ?_
          rw [← hA, hc22, g1, g2]
    · refine (show SXL _ _ [_] _ _ from ?_)
      refine SXL.alloc zp_148 ?_; intro b3
      refine SXL.nil (stepQ.mk _ rfl rfl ?_)
      refine SXA.all [5] (by kernel_rfl) rfl ⟨⟨?_, rfl⟩, trivial⟩
      refine (show SXL _ _ [_] _ _ from ?_)
      refine SXL.buildSlice et_33 zp_3 rfl rfl rfl rfl ?_; intro b4
      refine SXL.nil (stepQ.mk _ rfl rfl ?_)
      refine SXA.take 6 1 rfl (by kernel_rfl) rfl ?_
      refine SXL.call1 (.bool (decide (Wi week 0 (IntKind.i64.wrap (s.weeks - 1))))) fn_109 rfl (fun w hI => in1_own hI 4 week 0 (IntKind.i64.wrap (s.weeks - 1)) rfl) ?_
      refine SXL.nil ⟨rfl, rfl, rfl, ?_⟩
      refine SXA.all [7] (by kernel_rfl) rfl ⟨⟨?_, rfl⟩, trivial⟩
      refine (show SXL _ _ [_] _ _ from ?_)
      refine SXL.callP (AskR s bo ro bc rc (Wi week 0 (IntKind.i64.wrap (s.weeks - 1))) 11) fn_108 rfl (fun w hI => asked_any s bo ro bc rc (Wi week 0 (IntKind.i64.wrap (s.weeks - 1))) 11 hb hr w (hg.inv hI) (hs.inv hI)) ?_; rintro _ ⟨W, O, hW1, hW2, hO, rfl, hok⟩
      refine SXL.nil (stepQ.mk _ rfl rfl ?_)
      refine SXA.take 8 2 rfl (by kernel_rfl) rfl ?_
      refine SXL.move rfl ?_
      refine SXL.extract rfl rfl ?_
      refine SXL.nil ⟨rfl, rfl, rfl, ?_⟩
      refine SXA.takeM 10 2 rfl (by kernel_rfl) rfl ?_
      refine SXL.extract rfl rfl ?_
      refine SXL.extract rfl rfl ?_
      refine SXL.nil ⟨rfl, rfl, rfl, ?_⟩
      refine SXA.all [14] (by kernel_rfl) rfl ⟨⟨?_, rfl⟩, trivial⟩
      refine (show SXL _ _ [_] _ _ from ?_)
      refine SXL.store 2 sz_150 rfl rfl rfl rfl hW1 (putAt_all _ _ (by simp [hW1])) ?_ hW2
      refine SXL.nil (stepQ.mkL _ (by kernel_rfl) rfl rfl ?_)
      refine SXA.all [15] (by kernel_rfl) rfl ⟨⟨?_, rfl⟩, trivial⟩
      refine (show SXL _ _ [_] _ _ from ?_)
      refine SXL.store 3 sz_148 rfl rfl rfl rfl (by simp [hO]) (putAt_all _ _ (by simp [hO])) ?_ (ints_isOne _)
      refine SXL.nil (stepQ.mkL _ (by kernel_rfl) rfl rfl ?_)
      refine SXA.takeM 16 1 rfl (by kernel_rfl) rfl ?_
      refine SXL.assign rfl ?_
      refine SXL.nil ⟨rfl, rfl, rfl, ?_⟩
      refine SXA.done (by kernel_rfl) ?_
      refine SXL.nil ?_
      refine thenQ.normal ?_
      refine SX.seq ?_
      refine SX.seq ?_
      refine SX.region ?_
      refine SXL.move rfl ?_
      refine SXL.neqI rfl rfl ?_
      refine SXL.nil ?_
      refine thenQ.normal ?_
      refine SX.condP rfl (fun c22 => ?_) (fun c22 => ?_)
      · refine SX.seq ?_
        refine SX.region ?_
        refine SXL.buildS pl_55 zp_55 rfl rfl ?_
        refine SXL.move rfl ?_
        refine SXL.store 1 sz_55 rfl rfl rfl rfl rfl rfl ?_
        refine SXL.assign rfl ?_
        refine SXL.nil ?_
        refine thenQ.normal ?_
        refine SX.ret ?_
        refine thenQ.ret ?_
        refine retQ.two (ResAt.cellNo 1 sh_55 rfl rfl rfl) (ResAt.tmp rfl) ?_
        rw [givesLo, givesHi, ← hA, if_neg c22, if_neg c22]
      · refine SX.skip ?_
        refine thenQ.normal ?_
        refine SX.seq ?_
        have hc22 := Decidable.not_not.1 c22
        obtain ⟨hv, hwk, ht⟩ := toldE_valid (hA ▸ hc22)
        obtain ⟨rfl, rfl⟩ := hok hv ((hp hv).2 hwk) ht
        obtain ⟨g1, g2⟩ := outA_at (hA ▸ hc22)
        have hH := hv.1
        unfold HeadP at hH
        refine SX.region ?_
        refine SXL.move rfl ?_
        refine SXL.indexA el_148 rfl rfl (by omega) ?_
        refine SXL.loadNo 3 sh_55 rfl rfl (ints_take2' (M := outA s) (i := week.toNat) (by omega) (by rw [hO]; omega)) ?_
        refine SXL.store 1 sz_55 rfl rfl rfl rfl rfl rfl ?_
        refine SXL.assign rfl ?_
        refine SXL.nil ?_
        refine thenQ.normal ?_
        refine SX.ret ?_
        refine retQ.two (ResAt.cellNo 1 sh_55 rfl rfl rfl) (ResAt.tmp rfl) ?_
        rw [← hA, hc22, g1, g2]
  · refine (show SXL _ _ [_] _ _ from ?_)
    refine SXL.alloc zp_148 ?_; intro b2
    refine SXL.nil (stepQ.mk _ rfl rfl ?_)
    refine SXA.all [5, 12] (by kernel_rfl) rfl ⟨⟨?_, rfl⟩, ⟨?_, rfl⟩, trivial⟩
    · refine (show SXL _ _ [_] _ _ from ?_)
      refine SXL.buildSlice et_33 zp_3 rfl rfl rfl rfl ?_; intro b3
      refine SXL.nil (stepQ.mk _ rfl rfl ?_)
      refine SXA.take 6 1 rfl (by kernel_rfl) rfl ?_
      refine SXL.call1 (.bool (decide (Wi week 0 (IntKind.i64.wrap (s.weeks - 1))))) fn_109 rfl (fun w hI => in1_own hI 3 week 0 (IntKind.i64.wrap (s.weeks - 1)) rfl) ?_
      refine SXL.nil ⟨rfl, rfl, rfl, ?_⟩
      refine SXA.all [7, 12] (by kernel_rfl) rfl ⟨⟨?_, rfl⟩, ⟨?_, rfl⟩, trivial⟩
      · refine (show SXL _ _ [_] _ _ from ?_)
        refine SXL.callP (AskR s bo ro bc rc (Wi week 0 (IntKind.i64.wrap (s.weeks - 1))) 11) fn_108 rfl (fun w hI => asked_any s bo ro bc rc (Wi week 0 (IntKind.i64.wrap (s.weeks - 1))) 11 hb hr w (hg.inv hI) (hs.inv hI)) ?_; rintro _ ⟨W, O, hW1, hW2, hO, rfl, hok⟩
        refine SXL.nil (stepQ.mk _ rfl rfl ?_)
        refine SXA.take 8 2 rfl (by kernel_rfl) rfl ?_
        refine SXL.move rfl ?_
        refine SXL.extract rfl rfl ?_
        refine SXL.nil ⟨rfl, rfl, rfl, ?_⟩
        refine SXA.takeM 10 2 rfl (by kernel_rfl) rfl ?_
        refine SXL.extract rfl rfl ?_
        refine SXL.extract rfl rfl ?_
        refine SXL.nil ⟨rfl, rfl, rfl, ?_⟩
        refine SXA.all [12] (by kernel_rfl) rfl ⟨⟨?_, rfl⟩, trivial⟩
        refine (show SXL _ _ [_] _ _ from ?_)
        refine SXL.alloc zp_150 ?_; intro b4
        refine SXL.nil (stepQ.mk _ rfl rfl ?_)
        refine SXA.all [14] (by kernel_rfl) rfl ⟨⟨?_, rfl⟩, trivial⟩
        refine (show SXL _ _ [_] _ _ from ?_)
        refine SXL.store 4 sz_150 rfl rfl rfl rfl hW1 (putAt_all _ _ (by simp [hW1])) ?_ hW2
        refine SXL.nil (stepQ.mkL _ (by kernel_rfl) rfl rfl ?_)
        refine SXA.all [15] (by kernel_rfl) rfl ⟨⟨?_, rfl⟩, trivial⟩
        refine (show SXL _ _ [_] _ _ from ?_)
        refine SXL.store 2 sz_148 rfl rfl rfl rfl (by simp [hO]) (putAt_all _ _ (by simp [hO])) ?_ (ints_isOne _)
        refine SXL.nil (stepQ.mkL _ (by kernel_rfl) rfl rfl ?_)
        refine SXA.takeM 16 1 rfl (by kernel_rfl) rfl ?_
        refine SXL.assign rfl ?_
        refine SXL.nil ⟨rfl, rfl, rfl, ?_⟩
        refine SXA.done (by kernel_rfl) ?_
        refine SXL.nil ?_
        refine thenQ.normal ?_
        refine SX.seq ?_
        refine SX.seq ?_
        refine SX.region ?_
        refine SXL.move rfl ?_
        refine SXL.neqI rfl rfl ?_
        refine SXL.nil ?_
        refine thenQ.normal ?_
        refine SX.condP rfl (fun c22 => ?_) (fun c22 => ?_)
        · refine SX.seq ?_
          refine SX.region ?_
          refine SXL.buildS pl_55 zp_55 rfl rfl ?_
          refine SXL.move rfl ?_
          refine SXL.store 1 sz_55 rfl rfl rfl rfl rfl rfl ?_
          refine SXL.assign rfl ?_
          refine SXL.nil ?_
          refine thenQ.normal ?_
          refine SX.ret ?_
          refine thenQ.ret ?_
          refine retQ.two (ResAt.cellNo 1 sh_55 rfl rfl rfl) (ResAt.tmp rfl) ?_
          rw [givesLo, givesHi, ← hA, if_neg c22, if_neg c22]
        · refine SX.skip ?_
          refine thenQ.normal ?_
          refine SX.seq ?_
          have hc22 := Decidable.not_not.1 c22
          obtain ⟨hv, hwk, ht⟩ := toldE_valid (hA ▸ hc22)
          obtain ⟨rfl, rfl⟩ := hok hv ((hp hv).2 hwk) ht
          obtain ⟨g1, g2⟩ := outA_at (hA ▸ hc22)
          have hH := hv.1
          unfold HeadP at hH
          refine SX.region ?_
          refine SXL.move rfl ?_
          refine SXL.indexA el_148 rfl rfl (by omega) ?_
          refine SXL.loadNo 2 sh_55 rfl rfl (ints_take2' (M := outA s) (i := week.toNat) (by omega) (by rw [hO]; omega)) ?_
          refine SXL.store 1 sz_55 rfl rfl rfl rfl rfl rfl ?_
          refine SXL.assign rfl ?_
          refine SXL.nil ?_
          refine thenQ.normal ?_
          refine SX.ret ?_
          refine retQ.two (ResAt.cellNo 1 sh_55 rfl rfl rfl) (ResAt.tmp rfl) ?_
          rw [← hA, hc22, g1, g2]
      · refine (show SXL _ _ [_] _ _ from ?_)
        refine SXL.alloc zp_150 ?_; intro b4
        refine SXL.nil (stepQ.mk _ rfl rfl ?_)
        refine SXA.all [7] (by kernel_rfl) rfl ⟨⟨?_, rfl⟩, trivial⟩
        refine (show SXL _ _ [_] _ _ from ?_)
        refine SXL.callP (AskR s bo ro bc rc (Wi week 0 (IntKind.i64.wrap (s.weeks - 1))) 11) fn_108 rfl (fun w hI => asked_any s bo ro bc rc (Wi week 0 (IntKind.i64.wrap (s.weeks - 1))) 11 hb hr w (hg.inv hI) (hs.inv hI)) ?_; rintro _ ⟨W, O, hW1, hW2, hO, rfl, hok⟩
        refine SXL.nil (stepQ.mk _ rfl rfl ?_)
        refine SXA.take 8 2 rfl (by kernel_rfl) rfl ?_
        refine SXL.move rfl ?_
        refine SXL.extract rfl rfl ?_
        refine SXL.nil ⟨rfl, rfl, rfl, ?_⟩
        refine SXA.takeM 10 2 rfl (by kernel_rfl) rfl ?_
        refine SXL.extract rfl rfl ?_
        refine SXL.extract rfl rfl ?_
        refine SXL.nil ⟨rfl, rfl, rfl, ?_⟩
        refine SXA.all [14] (by kernel_rfl) rfl ⟨⟨?_, rfl⟩, trivial⟩
        refine (show SXL _ _ [_] _ _ from ?_)
        refine SXL.store 4 sz_150 rfl rfl rfl rfl hW1 (putAt_all _ _ (by simp [hW1])) ?_ hW2
        refine SXL.nil (stepQ.mkL _ (by kernel_rfl) rfl rfl ?_)
        refine SXA.all [15] (by kernel_rfl) rfl ⟨⟨?_, rfl⟩, trivial⟩
        refine (show SXL _ _ [_] _ _ from ?_)
        refine SXL.store 2 sz_148 rfl rfl rfl rfl (by simp [hO]) (putAt_all _ _ (by simp [hO])) ?_ (ints_isOne _)
        refine SXL.nil (stepQ.mkL _ (by kernel_rfl) rfl rfl ?_)
        refine SXA.takeM 16 1 rfl (by kernel_rfl) rfl ?_
        refine SXL.assign rfl ?_
        refine SXL.nil ⟨rfl, rfl, rfl, ?_⟩
        refine SXA.done (by kernel_rfl) ?_
        refine SXL.nil ?_
        refine thenQ.normal ?_
        refine SX.seq ?_
        refine SX.seq ?_
        refine SX.region ?_
        refine SXL.move rfl ?_
        refine SXL.neqI rfl rfl ?_
        refine SXL.nil ?_
        refine thenQ.normal ?_
        refine SX.condP rfl (fun c22 => ?_) (fun c22 => ?_)
        · refine SX.seq ?_
          refine SX.region ?_
          refine SXL.buildS pl_55 zp_55 rfl rfl ?_
          refine SXL.move rfl ?_
          refine SXL.store 1 sz_55 rfl rfl rfl rfl rfl rfl ?_
          refine SXL.assign rfl ?_
          refine SXL.nil ?_
          refine thenQ.normal ?_
          refine SX.ret ?_
          refine thenQ.ret ?_
          refine retQ.two (ResAt.cellNo 1 sh_55 rfl rfl rfl) (ResAt.tmp rfl) ?_
          rw [givesLo, givesHi, ← hA, if_neg c22, if_neg c22]
        · refine SX.skip ?_
          refine thenQ.normal ?_
          refine SX.seq ?_
          have hc22 := Decidable.not_not.1 c22
          obtain ⟨hv, hwk, ht⟩ := toldE_valid (hA ▸ hc22)
          obtain ⟨rfl, rfl⟩ := hok hv ((hp hv).2 hwk) ht
          obtain ⟨g1, g2⟩ := outA_at (hA ▸ hc22)
          have hH := hv.1
          unfold HeadP at hH
          refine SX.region ?_
          refine SXL.move rfl ?_
          refine SXL.indexA el_148 rfl rfl (by omega) ?_
          refine SXL.loadNo 2 sh_55 rfl rfl (ints_take2' (M := outA s) (i := week.toNat) (by omega) (by rw [hO]; omega)) ?_
          refine SXL.store 1 sz_55 rfl rfl rfl rfl rfl rfl ?_
          refine SXL.assign rfl ?_
          refine SXL.nil ?_
          refine thenQ.normal ?_
          refine SX.ret ?_
          refine retQ.two (ResAt.cellNo 1 sh_55 rfl rfl rfl) (ResAt.tmp rfl) ?_
          rw [← hA, hc22, g1, g2]
    · refine (show SXL _ _ [_] _ _ from ?_)
      refine SXL.alloc zp_150 ?_; intro b3
      refine SXL.nil (stepQ.mk _ rfl rfl ?_)
      refine SXA.all [5] (by kernel_rfl) rfl ⟨⟨?_, rfl⟩, trivial⟩
      refine (show SXL _ _ [_] _ _ from ?_)
      refine SXL.buildSlice et_33 zp_3 rfl rfl rfl rfl ?_; intro b4
      refine SXL.nil (stepQ.mk _ rfl rfl ?_)
      refine SXA.take 6 1 rfl (by kernel_rfl) rfl ?_
      refine SXL.call1 (.bool (decide (Wi week 0 (IntKind.i64.wrap (s.weeks - 1))))) fn_109 rfl (fun w hI => in1_own hI 4 week 0 (IntKind.i64.wrap (s.weeks - 1)) rfl) ?_
      refine SXL.nil ⟨rfl, rfl, rfl, ?_⟩
      refine SXA.all [7] (by kernel_rfl) rfl ⟨⟨?_, rfl⟩, trivial⟩
      refine (show SXL _ _ [_] _ _ from ?_)
      refine SXL.callP (AskR s bo ro bc rc (Wi week 0 (IntKind.i64.wrap (s.weeks - 1))) 11) fn_108 rfl (fun w hI => asked_any s bo ro bc rc (Wi week 0 (IntKind.i64.wrap (s.weeks - 1))) 11 hb hr w (hg.inv hI) (hs.inv hI)) ?_; rintro _ ⟨W, O, hW1, hW2, hO, rfl, hok⟩
      refine SXL.nil (stepQ.mk _ rfl rfl ?_)
      refine SXA.take 8 2 rfl (by kernel_rfl) rfl ?_
      refine SXL.move rfl ?_
      refine SXL.extract rfl rfl ?_
      refine SXL.nil ⟨rfl, rfl, rfl, ?_⟩
      refine SXA.takeM 10 2 rfl (by kernel_rfl) rfl ?_
      refine SXL.extract rfl rfl ?_
      refine SXL.extract rfl rfl ?_
      refine SXL.nil ⟨rfl, rfl, rfl, ?_⟩
      refine SXA.all [14] (by kernel_rfl) rfl ⟨⟨?_, rfl⟩, trivial⟩
      refine (show SXL _ _ [_] _ _ from ?_)
      refine SXL.store 3 sz_150 rfl rfl rfl rfl hW1 (putAt_all _ _ (by simp [hW1])) ?_ hW2
      refine SXL.nil (stepQ.mkL _ (by kernel_rfl) rfl rfl ?_)
      refine SXA.all [15] (by kernel_rfl) rfl ⟨⟨?_, rfl⟩, trivial⟩
      refine (show SXL _ _ [_] _ _ from ?_)
      refine SXL.store 2 sz_148 rfl rfl rfl rfl (by simp [hO]) (putAt_all _ _ (by simp [hO])) ?_ (ints_isOne _)
      refine SXL.nil (stepQ.mkL _ (by kernel_rfl) rfl rfl ?_)
      refine SXA.takeM 16 1 rfl (by kernel_rfl) rfl ?_
      refine SXL.assign rfl ?_
      refine SXL.nil ⟨rfl, rfl, rfl, ?_⟩
      refine SXA.done (by kernel_rfl) ?_
      refine SXL.nil ?_
      refine thenQ.normal ?_
      refine SX.seq ?_
      refine SX.seq ?_
      refine SX.region ?_
      refine SXL.move rfl ?_
      refine SXL.neqI rfl rfl ?_
      refine SXL.nil ?_
      refine thenQ.normal ?_
      refine SX.condP rfl (fun c22 => ?_) (fun c22 => ?_)
      · refine SX.seq ?_
        refine SX.region ?_
        refine SXL.buildS pl_55 zp_55 rfl rfl ?_
        refine SXL.move rfl ?_
        refine SXL.store 1 sz_55 rfl rfl rfl rfl rfl rfl ?_
        refine SXL.assign rfl ?_
        refine SXL.nil ?_
        refine thenQ.normal ?_
        refine SX.ret ?_
        refine thenQ.ret ?_
        refine retQ.two (ResAt.cellNo 1 sh_55 rfl rfl rfl) (ResAt.tmp rfl) ?_
        rw [givesLo, givesHi, ← hA, if_neg c22, if_neg c22]
      · refine SX.skip ?_
        refine thenQ.normal ?_
        refine SX.seq ?_
        have hc22 := Decidable.not_not.1 c22
        obtain ⟨hv, hwk, ht⟩ := toldE_valid (hA ▸ hc22)
        obtain ⟨rfl, rfl⟩ := hok hv ((hp hv).2 hwk) ht
        obtain ⟨g1, g2⟩ := outA_at (hA ▸ hc22)
        have hH := hv.1
        unfold HeadP at hH
        refine SX.region ?_
        refine SXL.move rfl ?_
        refine SXL.indexA el_148 rfl rfl (by omega) ?_
        refine SXL.loadNo 2 sh_55 rfl rfl (ints_take2' (M := outA s) (i := week.toNat) (by omega) (by rw [hO]; omega)) ?_
        refine SXL.store 1 sz_55 rfl rfl rfl rfl rfl rfl ?_
        refine SXL.assign rfl ?_
        refine SXL.nil ?_
        refine thenQ.normal ?_
        refine SX.ret ?_
        refine retQ.two (ResAt.cellNo 1 sh_55 rfl rfl rfl) (ResAt.tmp rfl) ?_
        rw [← hA, hc22, g1, g2]
end Go.Proofs.YtolcicaclflagaaDoor

/- The walks of the package town: checks. -/
namespace Go.Proofs.YtolcicaclflagaaDoor
open Go.X Go.S Go.T Go.RowKit
theorem indexFuncFounts (u : Su) (fo : Option Addr) (fc : Nat) (fa : Nat → FA) (F : Nat) (first capt : List Value) (p : Nat → Prop) [DecidablePred p] (hF : fnOk Tryd.prog F = true) (hmx : u.founts.length ≤ 1000000) (w : World) (h : RowsAt w fo 10 (foRows u fa)) (hc : ∀ k, k < u.founts.length → ∀ w', Below w.heap.size w w' → CallsR Tryd.prog F (first ++ [.agg ⟨foC (u.founts.getD k default) (fa k)⟩] ++ capt) w' (fun v _ => v = .bool (decide (p k)))) :
    CallsR Tryd.prog 91 [.slice fo u.founts.length fc, .func (.func F) ⟨first⟩ ⟨capt⟩] w (fun v _ => v = .int .i64 (idxF p u.founts.length)) := by
  refine CallsR.of_SX (n := 19) (rs := [.tmp 4]) Tryd.func91 rfl rfl rfl rfl ?_
  show SX _ _ _ ⟨[(0, .slice fo u.founts.length fc), (1, .func (.func F) ⟨first⟩ ⟨capt⟩)], [], []⟩
  refine SX.seq ?_
  refine SX.region ?_
  refine SXL.assign rfl ?_
  refine SXL.nil ?_
  refine thenQ.normal ?_
  refine SX.seq ?_
  refine SX.seq ?_
  refine SX.region ?_
  refine SXL.move rfl ?_
  refine SXL.len is_22 rfl ?_
  refine SXL.move rfl ?_
  refine SXL.nil ?_
  refine thenQ.normal ?_
  refine SX.block ?_
  refine SX.loopG (α := Nat) [0, 1, 4, 7] rfl (fun k => [(8, .int .i64 ((k : Int)))]) (fun k => []) (fun k => k ≤ u.founts.length ∧ ∀ i, i < k → ¬p i) (fun k => u.founts.length - k) 0 ⟨Nat.zero_le _, fun _ h => absurd h (Nat.not_lt_zero _)⟩ ⟨rfl, trivial⟩ rfl ?_
  rintro k ⟨hk, hall⟩
  refine SX.seq ?_
  refine SX.region ?_
  refine SXL.lss rfl rfl ?_
  refine SXL.nil ?_
  refine thenQ.normal ?_
  refine SX.seq ?_
  refine SX.condP rfl (fun c9 => ?_) (fun c9 => ?_)
  · refine SX.skip ?_
    refine thenQ.normal ?_
    refine SX.seq ?_
    refine SX.block ?_
    refine SX.seq ?_
    refine SX.region ?_
    refine SXL.move rfl ?_
    refine SXL.assign rfl ?_
    refine SXL.nil ?_
    refine thenQ.normal ?_
    refine SX.seq ?_
    obtain ⟨b, o, ha, hm⟩ := h.get (foRows_get (i := k) (by omega))
    refine SX.region ?_
    refine SXL.move rfl ?_
    refine SXL.move rfl ?_
    refine SXL.move rfl ?_
    refine SXL.indexR el_22 rfl rfl ha (by omega) ?_
    refine SXL.loadN sh_70 rfl (hm _) rfl ?_
    refine SXL.call1V (.bool (decide (p k))) hF rfl rfl (fun w hI => hc k (by omega) _ hI.below) ?_
    refine SXL.nil ?_
    refine thenQ.normal ?_
    refine SX.condP rfl (fun c16 => ?_) (fun c16 => ?_)
    · refine SX.seq ?_
      refine SX.region ?_
      refine SXL.move rfl ?_
      refine SXL.assign rfl ?_
      refine SXL.nil ?_
      refine thenQ.normal ?_
      refine SX.ret ?_
      refine blockQ.ret ?_
      refine thenQ.ret ?_
      refine thenQ.ret ?_
      refine blockQ.ret ?_
      refine thenQ.ret ?_
      refine retQ.one (ResAt.tmp rfl) ?_
      exact congrArg (Value.int .i64) (idxF_some (by omega) c16 hall).symm
    · refine SX.skip ?_
      refine blockQ.normal ?_
      refine thenQ.normal ?_
      refine SX.region ?_
      refine SXL.add rfl rfl (by omega) ?_
      refine SXL.move rfl ?_
      refine SXL.nil ?_
      refine thenQ.normal ?_
      refine ⟨k + 1, Meets.mk _ ⟨rfl, trivial⟩ ⟨rfl, rfl, rfl, rfl, trivial⟩ rfl, ?_, (by omega)⟩
      refine ⟨by omega, fun i hi => ?_⟩
      by_cases e : i = k
      · subst e; exact c16
      · exact hall i (by omega)
  · refine SX.exit ?_
    refine thenQ.exit ?_
    refine thenQ.exit ?_
    refine blockQ.exit ?_
    refine thenQ.normal ?_
    refine SX.seq ?_
    refine SX.region ?_
    refine SXL.assign rfl ?_
    refine SXL.nil ?_
    refine thenQ.normal ?_
    refine SX.ret ?_
    refine retQ.one (ResAt.tmp rfl) ?_
    exact congrArg (Value.int .i64) (idxF_none fun i hi => hall i (by omega)).symm
theorem fount1_any (x : Fo) (a : FA) (id : Int) (b : Nat) (w : World) (h : w.cell? ⟨b, 0, none⟩ = some (.int .i64 id)) :
    CallsR Tryd.prog 92 [.agg ⟨foC x a⟩, .pointer (some ⟨b, 0, none⟩)] w (fun v _ => v = .bool (decide (x.id = id))) := by
  refine CallsR.of_SX (n := 8) (rs := [.tmp 3]) Tryd.func92 rfl rfl rfl rfl ?_
  show SX _ _ _ ⟨[(0, .agg ⟨foC x a⟩), (1, .pointer (some ⟨b, 0, none⟩))], [], []⟩
  refine SX.seq ?_
  refine SX.region ?_
  refine SXL.box rfl rfl ?_; intro b0
  refine SXL.assign rfl ?_
  refine SXL.nil ?_
  refine thenQ.normal ?_
  refine SX.seq ?_
  refine SX.region ?_
  refine SXL.fieldAddr fp_70_0 rfl ?_
  refine SXL.load1o 0 sh_3 rfl rfl rfl ?_
  refine SXL.load1 sh_3 rfl (Mem.out1 h) ?_
  refine SXL.eqlI rfl rfl ?_
  refine SXL.assign rfl ?_
  refine SXL.nil ?_
  refine thenQ.normal ?_
  refine SX.ret ?_
  refine retQ.one (ResAt.tmp rfl) ?_
  first | rfl | assumption
theorem tfount_any (u : Su) (fo so : Option Addr) (fc sc : Nat) (fa : Nat → FA) (sa : Nat → DA) (id : Int) (hl : LitP u) (w : World) (hs : SuAt w u fo so fa sa) :
    CallsR Tryd.prog 61 [.agg ⟨[.slice fo u.founts.length fc, .slice so u.streets.length sc]⟩, .int .i64 id] w (fun v _ => v = .int .i64 (fountI u id)) := by
  have hL0 := hl.1
  have hL1 := hl.2.1
  have hL2 := hl.2.2
  refine CallsR.of_SX (n := 9) (rs := [.tmp 4]) Tryd.func61 rfl rfl rfl rfl ?_
  show SX _ _ _ ⟨[(0, .agg ⟨[.slice fo u.founts.length fc, .slice so u.streets.length sc]⟩), (1, .int .i64 id)], [], []⟩
  refine SX.seq ?_
  refine SX.region ?_
  refine SXL.box rfl rfl ?_; intro b0
  refine SXL.box rfl rfl ?_; intro b1
  refine SXL.assign rfl ?_
  refine SXL.nil ?_
  refine thenQ.normal ?_
  refine SX.seq ?_
  refine SX.region ?_
  refine SXL.fieldAddr fp_25_0 rfl ?_
  refine SXL.load1o 0 sh_22 rfl rfl rfl ?_
  refine SXL.makeFunc rfl rfl ?_
  refine SXL.call1 (.int .i64 (fountI u id)) fn_91 rfl (fun w hI => indexFuncFounts u fo fc fa 92 [] [.pointer (some ⟨b1, 0, none⟩)] (fun k => (u.founts.getD k default).id = id) fn_92 (by omega) w (hs.founts.inv hI) (fun k hk w' hb => fount1_any _ _ id b1 w' (ownCell (hI.ext hb) (i := 1) rfl rfl))) ?_
  refine SXL.assign rfl ?_
  refine SXL.nil ?_
  refine thenQ.normal ?_
  refine SX.ret ?_
  refine retQ.one (ResAt.tmp rfl) ?_
  first | rfl | assumption
theorem tin1c_any (n lo hi : Int) (b3 b4 : Nat) (w : World) (h3 : w.cell? ⟨b3, 0, none⟩ = some (.int .i64 lo)) (h4 : w.cell? ⟨b4, 0, none⟩ = some (.int .i64 hi)) :
    CallsR Tryd.prog 90 [.int .i64 n, .pointer (some ⟨b3, 0, none⟩), .pointer (some ⟨b4, 0, none⟩)] w (fun v _ => v = .bool (decide (n < lo ∨ hi < n))) := by
  refine CallsR.of_SX (n := 13) (rs := [.tmp 4]) Tryd.func90 rfl rfl rfl rfl ?_
  show SX _ _ _ ⟨[(0, .int .i64 n), (1, .pointer (some ⟨b3, 0, none⟩)), (2, .pointer (some ⟨b4, 0, none⟩))], [], []⟩
  refine SX.seq ?_
  refine SX.region ?_
  refine SXL.assign rfl ?_
  refine SXL.nil ?_
  refine thenQ.normal ?_
  refine SX.seq ?_
  refine SX.region ?_
  refine SXL.move rfl ?_
  refine SXL.load1 sh_3 rfl (Mem.out1 h3) ?_
  refine SXL.lss rfl rfl ?_
  refine SXL.move rfl ?_
  apply SXL.orG 3
  case hl => exact rfl
  case hd => exact rfl
  case hg => exact rfl
  case ht =>
    intro g1
    refine SXL.pass rfl rfl rfl ?_
    refine SXL.pass rfl rfl rfl ?_
    refine SXL.pass rfl rfl rfl ?_
    exact SXL.nil (segQ.mk (.skip rfl (.skip rfl (.skip rfl (.skip rfl (EnvSub.refl _))))) rfl rfl rfl)
  case hf =>
    intro g1
    refine SXL.move rfl ?_
    refine SXL.load1 sh_3 rfl (Mem.out1 h4) ?_
    refine SXL.gtr rfl rfl ?_
    exact SXL.nil (segQ.mk (.skip rfl (.skip rfl (.skip rfl (.skip rfl (EnvSub.refl _))))) rfl rfl ⟨rfl, rfl⟩)
  refine SXL.assign rfl ?_
  refine SXL.nil ?_
  refine thenQ.normal ?_
  refine SX.ret ?_
  refine retQ.one (ResAt.tmp rfl) ?_
  first | rfl | assumption
theorem tin_any (l : List Int) (lo hi : Int) (ao : Option Addr) (c : Nat) (hmx : l.length ≤ 1000000) (w : World) (h : RowsAt w ao 1 (ones l)) :
    CallsR Tryd.prog 59 [.int .i64 lo, .int .i64 hi, .slice ao l.length c] w (fun v _ => v = .bool (decide (∀ x ∈ l, Wi x lo hi))) := by
  refine CallsR.of_SX (n := 11) (rs := [.tmp 6]) Tryd.func59 rfl rfl rfl rfl ?_
  show SX _ _ _ ⟨[(0, .int .i64 lo), (1, .int .i64 hi), (2, .slice ao l.length c)], [], []⟩
  refine SX.seq ?_
  refine SX.region ?_
  refine SXL.box rfl rfl ?_; intro b0
  refine SXL.box rfl rfl ?_; intro b1
  refine SXL.assign rfl ?_
  refine SXL.nil ?_
  refine thenQ.normal ?_
  refine SX.seq ?_
  refine SX.region ?_
  refine SXL.move rfl ?_
  refine SXL.makeFunc rfl rfl ?_
  refine SXL.call1 (.bool (decide (0 ≤ idxF (fun k => l.getD k 0 < lo ∨ hi < l.getD k 0) l.length))) fn_82 rfl (fun w hI => containsFuncInts l ao c 90 [] [.pointer (some ⟨b0, 0, none⟩), .pointer (some ⟨b1, 0, none⟩)] (fun k => l.getD k 0 < lo ∨ hi < l.getD k 0) fn_90 hmx w (h.inv hI) (fun k hk w' hb => tin1c_any _ lo hi b0 b1 w' (ownCell (hI.ext hb) (i := 0) rfl rfl) (ownCell (hI.ext hb) (i := 1) rfl rfl))) ?_
  refine SXL.not rfl ?_
  refine SXL.assign rfl ?_
  refine SXL.nil ?_
  refine thenQ.normal ?_
  refine SX.ret ?_
  refine retQ.one (ResAt.tmp rfl) ?_
  exact congrArg Value.bool (decide_eq_decide.2 (by rw [idxF_nonneg]; exact in_iff l lo hi))
theorem tin1_own {w0 w : World} {own : X.Own} (hI : Inv w0 own w) (i : Nat) {b : Nat} (x lo hi : Int) {E : TypeId} {fz : Nat × Nat} (he : own[i]? = some (b, .cells ⟨ints [x]⟩ E fz)) :
    CallsR Tryd.prog 59 [.int .i64 lo, .int .i64 hi, .slice (some ⟨b, 0, none⟩) 1 1] w (fun v _ => v = .bool (decide (Wi x lo hi))) :=
  (tin_any [x] lo hi _ 1 (by simp) w (ownOnes hI [x] he)).iff (by simp)
theorem tin2_own {w0 w : World} {own : X.Own} (hI : Inv w0 own w) (i : Nat) {b : Nat} (x y lo hi : Int) {E : TypeId} {fz : Nat × Nat} (he : own[i]? = some (b, .cells ⟨ints [x, y]⟩ E fz)) :
    CallsR Tryd.prog 59 [.int .i64 lo, .int .i64 hi, .slice (some ⟨b, 0, none⟩) 2 2] w (fun v _ => v = .bool (decide (Wi x lo hi ∧ Wi y lo hi))) :=
  (tin_any [x, y] lo hi _ 2 (by simp) w (ownOnes hI [x, y] he)).iff (by simp)
theorem tck0_any (u : Su) (fo so : Option Addr) (fc sc : Nat) (w : World) :
    CallsR Tryd.prog 143 [.agg ⟨[.slice fo u.founts.length fc, .slice so u.streets.length sc]⟩] w (fun v _ => v = .bool (decide (tckP u 0))) := by
  refine CallsR.of_SX (n := 14) (rs := [.tmp 2]) Tryd.func143 rfl rfl rfl rfl ?_
  show SX _ _ _ ⟨[(0, .agg ⟨[.slice fo u.founts.length fc, .slice so u.streets.length sc]⟩)], [], []⟩
  refine SX.seq ?_
  refine SX.region ?_
  refine SXL.box rfl rfl ?_; intro b0
  refine SXL.assign rfl ?_
  refine SXL.nil ?_
  refine thenQ.normal ?_
  refine SX.seq ?_
  refine SX.region ?_
  refine SXL.fieldAddr fp_25_0 rfl ?_
  refine SXL.load1o 0 sh_22 rfl rfl rfl ?_
  refine SXL.len is_22 rfl ?_
  refine SXL.buildSlice et_33 zp_3 rfl rfl rfl rfl ?_; intro b1
  refine SXL.call1 (.bool (decide (Wi ((u.founts.length : Int)) (1) (4)))) fn_59 rfl (fun w hI => tin1_own hI 1 ((u.founts.length : Int)) (1) (4) rfl) ?_
  refine SXL.move rfl ?_
  apply SXL.andG 4
  case hl => exact rfl
  case hd => exact rfl
  case hg => exact rfl
  case ht =>
    intro g1
    refine SXL.fieldAddr fp_25_1 rfl ?_
    refine SXL.load1o 0 sh_23 rfl rfl rfl ?_
    refine SXL.len is_23 rfl ?_
    refine SXL.leq rfl rfl ?_
    exact SXL.nil (segQ.mk (.skip rfl (.skip rfl (.skip rfl (.skip rfl (.skip rfl (EnvSub.refl _)))))) rfl rfl ⟨rfl, rfl⟩)
  case hf =>
    intro g1
    refine SXL.pass rfl rfl rfl ?_
    refine SXL.pass rfl rfl rfl ?_
    refine SXL.pass rfl rfl rfl ?_
    refine SXL.pass rfl rfl rfl ?_
    exact SXL.nil (segQ.mk (.skip rfl (.skip rfl (.skip rfl (.skip rfl (.skip rfl (EnvSub.refl _)))))) rfl rfl rfl)
  refine SXL.assign rfl ?_
  refine SXL.nil ?_
  refine thenQ.normal ?_
  refine SX.ret ?_
  refine retQ.one (ResAt.tmp rfl) ?_
  first | rfl | assumption
theorem tck1_any (u : Su) (fo so : Option Addr) (fc sc : Nat) (fa : Nat → FA) (sa : Nat → DA) (hl : LitP u) (w : World) (hg : Gt w) (hs : SuAt w u fo so fa sa) :
    CallsR Tryd.prog 144 [.agg ⟨[.slice fo u.founts.length fc, .slice so u.streets.length sc]⟩] w (fun v _ => v = .bool (decide (tckP u 1))) := by
  have hL0 := hl.1
  have hL1 := hl.2.1
  have hL2 := hl.2.2
  refine CallsR.of_SX (n := 29) (rs := [.tmp 2]) Tryd.func144 rfl rfl rfl rfl ?_
  show SX _ _ _ ⟨[(0, .agg ⟨[.slice fo u.founts.length fc, .slice so u.streets.length sc]⟩)], [], []⟩
  refine SX.seq ?_
  refine SX.region ?_
  refine SXL.box rfl rfl ?_; intro b0
  refine SXL.assign rfl ?_
  refine SXL.nil ?_
  refine thenQ.normal ?_
  refine SX.seq ?_
  refine SX.region ?_
  refine SXL.assign rfl ?_
  refine SXL.nil ?_
  refine thenQ.normal ?_
  refine SX.seq ?_
  refine SX.seq ?_
  refine SX.region ?_
  refine SXL.fieldAddr fp_25_0 rfl ?_
  refine SXL.load1o 0 sh_22 rfl rfl rfl ?_
  refine SXL.len is_22 rfl ?_
  refine SXL.move rfl ?_
  refine SXL.nil ?_
  refine thenQ.normal ?_
  refine SX.block ?_
  refine SX.loopG (α := Nat) [2, 7, 8] rfl (fun k => [(9, .int .i64 ((k : Int))), (3, .int .i64 ((lastF u k)))]) (fun k => []) (fun k => k ≤ u.founts.length ∧ ∀ i, i < k → FoP (lastF u i) (u.founts.getD i default)) (fun k => u.founts.length - k) 0 ⟨Nat.zero_le _, fun _ h => absurd h (Nat.not_lt_zero _)⟩ ⟨rfl, rfl, trivial⟩ rfl ?_
  rintro k ⟨hk, hall⟩
  refine SX.seq ?_
  refine SX.region ?_
  refine SXL.lss rfl rfl ?_
  refine SXL.nil ?_
  refine thenQ.normal ?_
  refine SX.seq ?_
  refine SX.condP rfl (fun c10 => ?_) (fun c10 => ?_)
  · refine SX.skip ?_
    refine thenQ.normal ?_
    refine SX.seq ?_
    refine SX.block ?_
    refine SX.seq ?_
    obtain ⟨b, o, ha, hm⟩ := hs.fount (i := k) (by omega)
    have hLk := hL1 k (by omega)
    have hla := lastF_in hall
    refine SX.region ?_
    refine SXL.indexR el_22 rfl rfl ha (by omega) ?_
    refine SXL.loadN sh_70 rfl (hm _) rfl ?_
    refine SXL.alloc zp_70 ?_; intro b1
    refine SXL.store 1 sz_70 rfl rfl rfl rfl rfl rfl ?_
    refine SXL.nil ?_
    refine thenQ.normal ?_
    refine SX.seq ?_
    refine SX.seq ?_
    refine SX.region ?_
    refine SXL.move rfl ?_
    refine SXL.add rfl rfl (by omega) ?_
    refine SXL.fieldAddr fp_70_0 rfl ?_
    refine SXL.load1o 1 sh_3 rfl rfl rfl ?_
    refine SXL.buildSlice et_33 zp_3 rfl rfl rfl rfl ?_; intro b2
    refine SXL.call1 (.bool (decide (Wi ((u.founts.getD k default).id) (lastF u k + 1) (9999)))) fn_59 rfl (fun w hI => tin1_own hI 2 ((u.founts.getD k default).id) (lastF u k + 1) (9999) rfl) ?_
    refine SXL.not rfl ?_
    refine SXL.move rfl ?_
    apply SXL.orG 4
    case hl => exact rfl
    case hd => exact rfl
    case hg => exact rfl
    case ht =>
      intro c25
      refine SXL.pass rfl rfl rfl ?_
      refine SXL.pass rfl rfl rfl ?_
      refine SXL.pass rfl rfl rfl ?_
      refine SXL.pass rfl rfl rfl ?_
      exact SXL.nil (segQ.mk (.skip rfl (.skip rfl (.skip rfl (.skip rfl (.skip rfl (EnvSub.refl _)))))) rfl rfl rfl)
    case hf =>
      intro c25
      refine SXL.fieldAddr fp_70_1 rfl ?_
      refine SXL.loadNo 1 sh_68 rfl rfl rfl ?_
      refine SXL.call1 (.int .i64 (if SpP ((u.founts.getD k default).sp) then 0 else 10)) fn_112 rfl (fun w hI => scheck_any ((u.founts.getD k default).sp) (fa k).bo (fa k).ro (fa k).bc (fa k).rc (by omega) (by omega) w (hg.gl.inv hI) ((hs.springs k (by omega)).inv hI)) ?_
      refine SXL.neqI rfl rfl ?_
      exact SXL.nil (segQ.mk (.skip rfl (.skip rfl (.skip rfl (.skip rfl (.skip rfl (EnvSub.refl _)))))) rfl rfl ⟨rfl, rfl⟩)
    refine SXL.nil ?_
    refine thenQ.normal ?_
    refine SX.condP rfl (fun c25 => ?_) (fun c25 => ?_)
    · refine SX.seq ?_
      refine SX.region ?_
      refine SXL.assign rfl ?_
      refine SXL.nil ?_
      refine thenQ.normal ?_
      refine SX.ret ?_
      refine thenQ.ret ?_
      refine blockQ.ret ?_
      refine thenQ.ret ?_
      refine thenQ.ret ?_
      refine blockQ.ret ?_
      refine thenQ.ret ?_
      refine retQ.one (ResAt.tmp rfl) ?_
      exact congrArg Value.bool (decide_eq_false (by intro h; have h1 := h k (by omega); rw [if_pos h1.2] at c25; omega)).symm
    · refine SX.skip ?_
      refine thenQ.normal ?_
      refine SX.region ?_
      refine SXL.fieldAddr fp_70_0 rfl ?_
      refine SXL.load1o 1 sh_3 rfl rfl rfl ?_
      refine SXL.assign rfl ?_
      refine SXL.nil ?_
      refine blockQ.normal ?_
      refine thenQ.normal ?_
      refine SX.region ?_
      refine SXL.add rfl rfl (by omega) ?_
      refine SXL.move rfl ?_
      refine SXL.nil ?_
      refine thenQ.normal ?_
      refine ⟨k + 1, Meets.mk _ ⟨rfl, rfl, trivial⟩ ⟨rfl, rfl, rfl, trivial⟩ rfl, ?_, (by omega)⟩
      refine ⟨by omega, fun i hi => ?_⟩
      by_cases e : i = k
      · subst e; have e1 : SpP ((u.founts.getD i default).sp) := by have := c25; by_cases hx : SpP ((u.founts.getD i default).sp); exact hx; rw [if_neg hx] at this; omega
        exact ⟨by omega, e1⟩
      · exact hall i (by omega)
  · refine SX.exit ?_
    refine thenQ.exit ?_
    refine thenQ.exit ?_
    refine blockQ.exit ?_
    refine thenQ.normal ?_
    refine SX.seq ?_
    refine SX.region ?_
    refine SXL.assign rfl ?_
    refine SXL.nil ?_
    refine thenQ.normal ?_
    refine SX.ret ?_
    refine retQ.one (ResAt.tmp rfl) ?_
    exact congrArg Value.bool (decide_eq_true (fun i hi => hall i (by omega))).symm
theorem tdraws_any (u : Su) (fo so : Option Addr) (fc sc : Nat) (fa : Nat → FA) (sa : Nat → DA) (x : Sr) (ao : Option Addr) (ac : Nat) (hx : x.draws.length ≤ 20) (hl : LitP u) (w : World) (hd : RowsAt w ao 1 (ones x.draws)) (hs : SuAt w u fo so fa sa) :
    CallsR Tryd.prog 146 [.agg ⟨[.slice fo u.founts.length fc, .slice so u.streets.length sc]⟩, .agg ⟨srC x (ao, ac)⟩] w (fun v _ => v = .bool (decide (DrP u x.draws))) := by
  refine CallsR.of_SX (n := 26) (rs := [.tmp 4]) Tryd.func146 rfl rfl rfl rfl ?_
  show SX _ _ _ ⟨[(0, .agg ⟨[.slice fo u.founts.length fc, .slice so u.streets.length sc]⟩), (1, .agg ⟨srC x (ao, ac)⟩)], [], []⟩
  refine SX.seq ?_
  refine SX.region ?_
  refine SXL.box rfl rfl ?_; intro b0
  refine SXL.box rfl rfl ?_; intro b1
  refine SXL.assign rfl ?_
  refine SXL.nil ?_
  refine thenQ.normal ?_
  refine SX.seq ?_
  refine SX.region ?_
  refine SXL.assign rfl ?_
  refine SXL.nil ?_
  refine thenQ.normal ?_
  refine SX.seq ?_
  refine SX.seq ?_
  refine SX.region ?_
  refine SXL.fieldAddr fp_73_3 rfl ?_
  refine SXL.load1o 1 sh_33 rfl rfl rfl ?_
  refine SXL.len is_33 rfl ?_
  refine SXL.move rfl ?_
  refine SXL.nil ?_
  refine thenQ.normal ?_
  refine SX.block ?_
  refine SX.loopG (α := Nat) [2, 4, 9, 10] rfl (fun k => [(11, .int .i64 ((k : Int))), (5, .int .i64 ((lastD x.draws k)))]) (fun k => []) (fun k => k ≤ x.draws.length ∧ ∀ i, i < k → lastD x.draws i < x.draws.getD i 0 ∧ HasF u (x.draws.getD i 0)) (fun k => x.draws.length - k) 0 ⟨Nat.zero_le _, fun _ h => absurd h (Nat.not_lt_zero _)⟩ ⟨rfl, rfl, trivial⟩ rfl ?_
  rintro k ⟨hk, hall⟩
  refine SX.seq ?_
  refine SX.region ?_
  refine SXL.lss rfl rfl ?_
  refine SXL.nil ?_
  refine thenQ.normal ?_
  refine SX.seq ?_
  refine SX.condP rfl (fun c12 => ?_) (fun c12 => ?_)
  · refine SX.skip ?_
    refine thenQ.normal ?_
    refine SX.seq ?_
    refine SX.block ?_
    refine SX.seq ?_
    obtain ⟨b, o, ha, hm⟩ := oneI hd (i := k) (by omega)
    refine SX.region ?_
    refine SXL.indexR el_33 rfl rfl ha (by omega) ?_
    refine SXL.load1 sh_3 rfl (hm _) ?_
    refine SXL.assign rfl ?_
    refine SXL.nil ?_
    refine thenQ.normal ?_
    refine SX.seq ?_
    refine SX.seq ?_
    refine SX.region ?_
    refine SXL.move rfl ?_
    refine SXL.move rfl ?_
    refine SXL.leq rfl rfl ?_
    refine SXL.move rfl ?_
    apply SXL.orG 4
    case hl => exact rfl
    case hd => exact rfl
    case hg => exact rfl
    case ht =>
      intro c23
      refine SXL.pass rfl rfl rfl ?_
      refine SXL.pass rfl rfl rfl ?_
      refine SXL.pass rfl rfl rfl ?_
      refine SXL.pass rfl rfl rfl ?_
      exact SXL.nil (segQ.mk (.skip rfl (.skip rfl (.skip rfl (.skip rfl (.skip rfl (EnvSub.refl _)))))) rfl rfl rfl)
    case hf =>
      intro c23
      refine SXL.loadNo 0 sh_25 rfl rfl rfl ?_
      refine SXL.move rfl ?_
      refine SXL.call1 (.int .i64 (fountI u (x.draws.getD k 0))) fn_61 rfl (fun w hI => tfount_any u fo so fc sc fa sa _ hl w (hs.inv hI)) ?_
      refine SXL.lss rfl rfl ?_
      exact SXL.nil (segQ.mk (.skip rfl (.skip rfl (.skip rfl (.skip rfl (.skip rfl (EnvSub.refl _)))))) rfl rfl ⟨rfl, rfl⟩)
    refine SXL.nil ?_
    refine thenQ.normal ?_
    refine SX.condP rfl (fun c23 => ?_) (fun c23 => ?_)
    · refine SX.seq ?_
      refine SX.region ?_
      refine SXL.assign rfl ?_
      refine SXL.nil ?_
      refine thenQ.normal ?_
      refine SX.ret ?_
      refine thenQ.ret ?_
      refine blockQ.ret ?_
      refine thenQ.ret ?_
      refine thenQ.ret ?_
      refine blockQ.ret ?_
      refine thenQ.ret ?_
      refine retQ.one (ResAt.tmp rfl) ?_
      exact congrArg Value.bool (decide_eq_false (by intro h; have h1 := h k (by omega); have h2 := fountI_has.2 h1.2; omega)).symm
    · refine SX.skip ?_
      refine thenQ.normal ?_
      refine SX.region ?_
      refine SXL.move rfl ?_
      refine SXL.assign rfl ?_
      refine SXL.nil ?_
      refine blockQ.normal ?_
      refine thenQ.normal ?_
      refine SX.region ?_
      refine SXL.add rfl rfl (by omega) ?_
      refine SXL.move rfl ?_
      refine SXL.nil ?_
      refine thenQ.normal ?_
      refine ⟨k + 1, Meets.mk _ ⟨rfl, rfl, trivial⟩ ⟨rfl, rfl, rfl, rfl, trivial⟩ rfl, ?_, (by omega)⟩
      refine ⟨by omega, fun i hi => ?_⟩
      by_cases e : i = k
      · subst e; exact ⟨by omega, fountI_has.1 (by omega)⟩
      · exact hall i (by omega)
  · refine SX.exit ?_
    refine thenQ.exit ?_
    refine thenQ.exit ?_
    refine blockQ.exit ?_
    refine thenQ.normal ?_
    refine SX.seq ?_
    refine SX.region ?_
    refine SXL.assign rfl ?_
    refine SXL.nil ?_
    refine thenQ.normal ?_
    refine SX.ret ?_
    refine retQ.one (ResAt.tmp rfl) ?_
    exact congrArg Value.bool (decide_eq_true (fun i hi => hall i (by omega))).symm
theorem tck2_any (u : Su) (fo so : Option Addr) (fc sc : Nat) (fa : Nat → FA) (sa : Nat → DA) (hl : LitP u) (w : World) (hs : SuAt w u fo so fa sa) :
    CallsR Tryd.prog 145 [.agg ⟨[.slice fo u.founts.length fc, .slice so u.streets.length sc]⟩] w (fun v _ => v = .bool (decide (tckP u 2))) := by
  have hL0 := hl.1
  have hL1 := hl.2.1
  have hL2 := hl.2.2
  refine CallsR.of_SX (n := 59) (rs := [.tmp 2]) Tryd.func145 rfl rfl rfl rfl ?_
  show SX _ _ _ ⟨[(0, .agg ⟨[.slice fo u.founts.length fc, .slice so u.streets.length sc]⟩)], [], []⟩
  refine SX.seq ?_
  refine SX.region ?_
  refine SXL.box rfl rfl ?_; intro b0
  refine SXL.assign rfl ?_
  refine SXL.nil ?_
  refine thenQ.normal ?_
  refine SX.seq ?_
  refine SX.region ?_
  refine SXL.assign rfl ?_
  refine SXL.nil ?_
  refine thenQ.normal ?_
  refine SX.seq ?_
  refine SX.seq ?_
  refine SX.region ?_
  refine SXL.fieldAddr fp_25_1 rfl ?_
  refine SXL.load1o 0 sh_23 rfl rfl rfl ?_
  refine SXL.len is_23 rfl ?_
  refine SXL.move rfl ?_
  refine SXL.nil ?_
  refine thenQ.normal ?_
  refine SX.block ?_
  refine SX.loopG (α := Nat) [1, 2, 7, 8] rfl (fun k => [(9, .int .i64 ((k : Int))), (3, .int .i64 ((lastR u k)))]) (fun k => []) (fun k => k ≤ u.streets.length ∧ ∀ i, i < k → SrP u (lastR u i) (u.streets.getD i default)) (fun k => u.streets.length - k) 0 ⟨Nat.zero_le _, fun _ h => absurd h (Nat.not_lt_zero _)⟩ ⟨rfl, rfl, trivial⟩ rfl ?_
  rintro k ⟨hk, hall⟩
  refine SX.seq ?_
  refine SX.region ?_
  refine SXL.lss rfl rfl ?_
  refine SXL.nil ?_
  refine thenQ.normal ?_
  refine SX.seq ?_
  refine SX.condP rfl (fun c10 => ?_) (fun c10 => ?_)
  · refine SX.skip ?_
    refine thenQ.normal ?_
    refine SX.seq ?_
    refine SX.block ?_
    refine SX.seq ?_
    obtain ⟨b, o, ha, hm⟩ := hs.street (i := k) (by omega)
    have hLk := hL2 k (by omega)
    have hla := lastR_in hall
    refine SX.region ?_
    refine SXL.indexR el_23 rfl rfl ha (by omega) ?_
    refine SXL.loadN sh_73 rfl (hm _) rfl ?_
    refine SXL.alloc zp_73 ?_; intro b1
    refine SXL.store 1 sz_73 rfl rfl rfl rfl rfl rfl ?_
    refine SXL.nil ?_
    refine thenQ.normal ?_
    refine SX.seq ?_
    refine SX.seq ?_
    refine SX.region ?_
    refine SXL.move rfl ?_
    refine SXL.add rfl rfl (by omega) ?_
    refine SXL.fieldAddr fp_73_0 rfl ?_
    refine SXL.load1o 1 sh_3 rfl rfl rfl ?_
    refine SXL.buildSlice et_33 zp_3 rfl rfl rfl rfl ?_; intro b2
    refine SXL.call1 (.bool (decide (Wi ((u.streets.getD k default).id) (lastR u k + 1) (9999)))) fn_59 rfl (fun w hI => tin1_own hI 2 ((u.streets.getD k default).id) (lastR u k + 1) (9999) rfl) ?_
    refine SXL.not rfl ?_
    refine SXL.move rfl ?_
    apply SXL.orG 9
    case hl => exact rfl
    case hd => exact rfl
    case hg => exact rfl
    case ht =>
      intro g2
      refine SXL.pass rfl rfl rfl ?_
      refine SXL.pass rfl rfl rfl ?_
      refine SXL.pass rfl rfl rfl ?_
      refine SXL.pass rfl rfl rfl ?_
      refine SXL.pass rfl rfl rfl ?_
      refine SXL.pass rfl rfl rfl ?_
      refine SXL.pass rfl rfl rfl ?_
      refine SXL.pass rfl rfl rfl ?_
      refine SXL.pass rfl rfl rfl ?_
      exact SXL.nil (segQ.mk (.skip rfl (.skip rfl (.skip rfl (.skip rfl (.skip rfl (.skip rfl (.skip rfl (.skip rfl (.skip rfl (.skip rfl (EnvSub.refl _))))))))))) rfl rfl rfl)
    case hf =>
      intro g2
      refine SXL.fieldAddr fp_73_1 rfl ?_
      refine SXL.fieldAddr fp_55_0 rfl ?_
      refine SXL.load1o 1 sh_3 rfl rfl rfl ?_
      refine SXL.fieldAddr fp_73_1 rfl ?_
      refine SXL.fieldAddr fp_55_1 rfl ?_
      refine SXL.load1o 1 sh_3 rfl rfl rfl ?_
      refine SXL.buildSlice et_33 zp_3 rfl rfl rfl rfl ?_; intro b3
      refine SXL.call1 (.bool (decide (Wi ((u.streets.getD k default).n0) (0) (100) ∧ Wi ((u.streets.getD k default).n1) (0) (100)))) fn_59 rfl (fun w hI => tin2_own hI 3 ((u.streets.getD k default).n0) ((u.streets.getD k default).n1) (0) (100) rfl) ?_
      refine SXL.not rfl ?_
      exact SXL.ownPre (SXL.nil (segQ.mk (.skip rfl (.skip rfl (.skip rfl (.skip rfl (.skip rfl (.skip rfl (.skip rfl (.skip rfl (.skip rfl (.skip rfl (EnvSub.refl _))))))))))) rfl rfl ⟨rfl, rfl⟩)) rfl
    refine SXL.move rfl ?_
    apply SXL.orG 7
    case hl => exact rfl
    case hd => exact rfl
    case hg => exact rfl
    case ht =>
      intro g3
      refine SXL.pass rfl rfl rfl ?_
      refine SXL.pass rfl rfl rfl ?_
      refine SXL.pass rfl rfl rfl ?_
      refine SXL.pass rfl rfl rfl ?_
      refine SXL.pass rfl rfl rfl ?_
      refine SXL.pass rfl rfl rfl ?_
      refine SXL.pass rfl rfl rfl ?_
      exact SXL.nil (segQ.mk (.skip rfl (.skip rfl (.skip rfl (.skip rfl (.skip rfl (.skip rfl (.skip rfl (.skip rfl (EnvSub.refl _))))))))) rfl rfl rfl)
    case hf =>
      intro g3
      refine SXL.fieldAddr fp_73_1 rfl ?_
      refine SXL.fieldAddr fp_55_0 rfl ?_
      refine SXL.load1o 1 sh_3 rfl rfl rfl ?_
      refine SXL.fieldAddr fp_73_1 rfl ?_
      refine SXL.fieldAddr fp_55_1 rfl ?_
      refine SXL.load1o 1 sh_3 rfl rfl rfl ?_
      refine SXL.gtr rfl rfl ?_
      exact SXL.nil (segQ.mk (.skip rfl (.skip rfl (.skip rfl (.skip rfl (.skip rfl (.skip rfl (.skip rfl (.skip rfl (EnvSub.refl _))))))))) rfl rfl ⟨rfl, rfl⟩)
    refine SXL.move rfl ?_
    apply SXL.orG 8
    case hl => exact rfl
    case hd => exact rfl
    case hg => exact rfl
    case ht =>
      intro g4
      refine SXL.pass rfl rfl rfl ?_
      refine SXL.pass rfl rfl rfl ?_
      refine SXL.pass rfl rfl rfl ?_
      refine SXL.pass rfl rfl rfl ?_
      refine SXL.pass rfl rfl rfl ?_
      refine SXL.pass rfl rfl rfl ?_
      refine SXL.pass rfl rfl rfl ?_
      refine SXL.pass rfl rfl rfl ?_
      exact SXL.nil (segQ.mk (.skip rfl (.skip rfl (.skip rfl (.skip rfl (.skip rfl (.skip rfl (.skip rfl (.skip rfl (.skip rfl (EnvSub.refl _)))))))))) rfl rfl rfl)
    case hf =>
      intro g4
      refine SXL.fieldAddr fp_73_1 rfl ?_
      refine SXL.fieldAddr fp_55_0 rfl ?_
      refine SXL.load1o 1 sh_3 rfl rfl rfl ?_
      refine SXL.fieldAddr fp_73_2 rfl ?_
      refine SXL.load1o 1 sh_3 rfl rfl rfl ?_
      refine SXL.buildSlice et_33 zp_3 rfl rfl rfl rfl ?_; intro b3
      refine SXL.call1 (.bool (decide (Wi ((u.streets.getD k default).least) (0) ((u.streets.getD k default).n0)))) fn_59 rfl (fun w hI => tin1_own hI 3 ((u.streets.getD k default).least) (0) ((u.streets.getD k default).n0) rfl) ?_
      refine SXL.not rfl ?_
      exact SXL.ownPre (SXL.nil (segQ.mk (.skip rfl (.skip rfl (.skip rfl (.skip rfl (.skip rfl (.skip rfl (.skip rfl (.skip rfl (.skip rfl (EnvSub.refl _)))))))))) rfl rfl ⟨rfl, rfl⟩)) rfl
    refine SXL.move rfl ?_
    apply SXL.orG 4
    case hl => exact rfl
    case hd => exact rfl
    case hg => exact rfl
    case ht =>
      intro c55
      refine SXL.pass rfl rfl rfl ?_
      refine SXL.pass rfl rfl rfl ?_
      refine SXL.pass rfl rfl rfl ?_
      refine SXL.pass rfl rfl rfl ?_
      exact SXL.nil (segQ.mk (.skip rfl (.skip rfl (.skip rfl (.skip rfl (.skip rfl (EnvSub.refl _)))))) rfl rfl rfl)
    case hf =>
      intro c55
      refine SXL.loadNo 0 sh_25 rfl rfl rfl ?_
      refine SXL.loadNo 1 sh_73 rfl rfl rfl ?_
      refine SXL.call1 (.bool (decide (DrP u (u.streets.getD k default).draws))) fn_146 rfl (fun w hI => tdraws_any u fo so fc sc fa sa (u.streets.getD k default) (sa k).1 (sa k).2 hLk hl w ((hs.draws k (by omega)).inv hI) (hs.inv hI)) ?_
      refine SXL.not rfl ?_
      exact SXL.nil (segQ.mk (.skip rfl (.skip rfl (.skip rfl (.skip rfl (.skip rfl (EnvSub.refl _)))))) rfl rfl ⟨rfl, rfl⟩)
    refine SXL.nil ?_
    refine thenQ.normal ?_
    refine SX.condP rfl (fun c55 => ?_) (fun c55 => ?_)
    · refine SX.seq ?_
      refine SX.region ?_
      refine SXL.assign rfl ?_
      refine SXL.nil ?_
      refine thenQ.normal ?_
      refine SX.ret ?_
      refine thenQ.ret ?_
      refine blockQ.ret ?_
      refine thenQ.ret ?_
      refine thenQ.ret ?_
      refine blockQ.ret ?_
      refine thenQ.ret ?_
      refine retQ.one (ResAt.tmp rfl) ?_
      exact congrArg Value.bool (decide_eq_false (by intro h; have h1 := h k (by omega); have h2 := h1.2.2.2; have h3 := h1.1; have h4 := h1.2.1; have h5 := h1.2.2.1; rcases c55 with c | c; omega; exact c h2)).symm
    · refine SX.skip ?_
      refine thenQ.normal ?_
      refine SX.region ?_
      refine SXL.fieldAddr fp_73_0 rfl ?_
      refine SXL.load1o 1 sh_3 rfl rfl rfl ?_
      refine SXL.assign rfl ?_
      refine SXL.nil ?_
      refine blockQ.normal ?_
      refine thenQ.normal ?_
      refine SX.region ?_
      refine SXL.add rfl rfl (by omega) ?_
      refine SXL.move rfl ?_
      refine SXL.nil ?_
      refine thenQ.normal ?_
      refine ⟨k + 1, Meets.mk _ ⟨rfl, rfl, trivial⟩ ⟨rfl, rfl, rfl, rfl, trivial⟩ rfl, ?_, (by omega)⟩
      refine ⟨by omega, fun i hi => ?_⟩
      by_cases e : i = k
      · subst e; obtain ⟨c4, c5⟩ := not_or.1 c55
        exact ⟨by omega, by omega, by omega, Decidable.not_not.1 c5⟩
      · exact hall i (by omega)
  · refine SX.exit ?_
    refine thenQ.exit ?_
    refine thenQ.exit ?_
    refine blockQ.exit ?_
    refine thenQ.normal ?_
    refine SX.seq ?_
    refine SX.region ?_
    refine SXL.assign rfl ?_
    refine SXL.nil ?_
    refine thenQ.normal ?_
    refine SX.ret ?_
    refine retQ.one (ResAt.tmp rfl) ?_
    exact congrArg Value.bool (decide_eq_true (fun i hi => hall i (by omega))).symm
theorem tck_any (u : Su) (fo so : Option Addr) (fc sc : Nat) (fa : Nat → FA) (sa : Nat → DA) (k : Nat) (hk : k < 3) (hl : LitP u) (w : World) (hg : Gt w) (hs : SuAt w u fo so fa sa) :
    CallsR Tryd.prog (tckId k) [.agg ⟨[.slice fo u.founts.length fc, .slice so u.streets.length sc]⟩] w (fun v _ => v = .bool (decide (tckP u k))) := by
  match k, hk with
  | 0, _ => exact tck0_any u fo so fc sc w
  | 1, _ => exact tck1_any u fo so fc sc fa sa hl w hg hs
  | 2, _ => exact tck2_any u fo so fc sc fa sa hl w hs
theorem fn_tck (k : Nat) (hk : k < 3) : fnOk Tryd.prog (tckId k) = true := by
  match k, hk with
  | 0, _ => exact fn_143
  | 1, _ => exact fn_144
  | 2, _ => exact fn_145
theorem tcheck_any (u : Su) (fo so : Option Addr) (fc sc : Nat) (fa : Nat → FA) (sa : Nat → DA) (hl : LitP u) (w : World) (hg : Gt w) (hs : SuAt w u fo so fa sa) :
    CallsR Tryd.prog 18 [.agg ⟨[.slice fo u.founts.length fc, .slice so u.streets.length sc]⟩] w (fun v _ => v = .int .i64 (if SuP u then 0 else 90)) := by
  refine CallsR.of_SX (n := 15) (rs := [.tmp 2]) Tryd.func18 rfl rfl rfl rfl ?_
  show SX _ _ _ ⟨[(0, .agg ⟨[.slice fo u.founts.length fc, .slice so u.streets.length sc]⟩)], [], []⟩
  refine SX.seq ?_
  refine SX.region ?_
  refine SXL.box rfl rfl ?_; intro b0
  refine SXL.assign rfl ?_
  refine SXL.nil ?_
  refine thenQ.normal ?_
  refine SX.seq ?_
  refine SX.seq ?_
  refine SX.region ?_
  refine SXL.loadN sh_91 rfl (hg.memC _) rfl ?_
  refine SXL.move rfl ?_
  refine SXL.nil ?_
  refine thenQ.normal ?_
  refine SX.block ?_
  refine SX.loopG (α := Nat) [1, 2, 5] rfl (fun k => [(6, .int .i64 ((k : Int)))]) (fun k => []) (fun k => k ≤ 3 ∧ ∀ i, i < k → tckP u i) (fun k => 3 - k) 0 ⟨Nat.zero_le _, fun _ h => absurd h (Nat.not_lt_zero _)⟩ ⟨rfl, trivial⟩ rfl ?_
  rintro k ⟨hk, hall⟩
  refine SX.seq ?_
  refine SX.region ?_
  refine SXL.lss rfl rfl ?_
  refine SXL.nil ?_
  refine thenQ.normal ?_
  refine SX.seq ?_
  refine SX.condP rfl (fun c7 => ?_) (fun c7 => ?_)
  · refine SX.skip ?_
    refine thenQ.normal ?_
    refine SX.seq ?_
    refine SX.block ?_
    refine SX.seq ?_
    refine SX.region ?_
    refine SXL.indexV ae_91 sh_90 rfl rfl (by omega) (tck_take k (by omega)) ?_
    refine SXL.alloc zp_90 ?_; intro b1
    refine SXL.store 1 sz_90 rfl rfl rfl rfl rfl rfl ?_
    refine SXL.nil ?_
    refine thenQ.normal ?_
    refine SX.seq ?_
    refine SX.region ?_
    refine SXL.fieldAddr fp_90_0 rfl ?_
    refine SXL.load1o 1 sh_26 rfl rfl rfl ?_
    refine SXL.loadNo 0 sh_25 rfl rfl rfl ?_
    refine SXL.call1V (.bool (decide (tckP u k))) (fn_tck k (by omega)) rfl rfl (fun w hI => tck_any u fo so fc sc fa sa k (by omega) hl w (hg.inv hI) (hs.inv hI)) ?_
    refine SXL.not rfl ?_
    refine SXL.nil ?_
    refine thenQ.normal ?_
    refine SX.condP rfl (fun c13 => ?_) (fun c13 => ?_)
    · refine SX.seq ?_
      refine SX.region ?_
      refine SXL.assign rfl ?_
      refine SXL.nil ?_
      refine thenQ.normal ?_
      refine SX.ret ?_
      refine blockQ.ret ?_
      refine thenQ.ret ?_
      refine thenQ.ret ?_
      refine blockQ.ret ?_
      refine thenQ.ret ?_
      refine retQ.one (ResAt.tmp rfl) ?_
      rw [if_neg (fun h => c13 ((tck_iff u).1 h k (by omega)))]
    · refine SX.skip ?_
      refine blockQ.normal ?_
      refine thenQ.normal ?_
      refine SX.region ?_
      refine SXL.add rfl rfl (by omega) ?_
      refine SXL.move rfl ?_
      refine SXL.nil ?_
      refine thenQ.normal ?_
      refine ⟨k + 1, Meets.mk _ ⟨rfl, trivial⟩ ⟨rfl, rfl, rfl, trivial⟩ rfl, ?_, (by omega)⟩
      refine ⟨by omega, fun i hi => ?_⟩
      by_cases e : i = k
      · subst e; exact Decidable.not_not.1 c13
      · exact hall i (by omega)
  · refine SX.exit ?_
    refine thenQ.exit ?_
    refine thenQ.exit ?_
    refine blockQ.exit ?_
    refine thenQ.normal ?_
    refine SX.seq ?_
    refine SX.region ?_
    refine SXL.assign rfl ?_
    refine SXL.nil ?_
    refine thenQ.normal ?_
    refine SX.ret ?_
    refine retQ.one (ResAt.tmp rfl) ?_
    rw [if_pos ((tck_iff u).2 fun i hi => hall i (by omega))]
end Go.Proofs.YtolcicaclflagaaDoor

/- The calculus' rules: blocks of a number that is not known, kept behind those that are. Nothing of the program stands here. -/
namespace Go.X
open Go Go.RowKit
theorem Sel.perm {own' own t : Own} (h : own.Perm (own' ++ t)) : Sel own' own := fun _ _ hI => (hI.perm h.symm).weaken (List.sublist_append_left _ _)
/-- New blocks go behind the first n. -/
theorem insN_sel (n : Nat) (own t : Own) : Sel (own.take n ++ t ++ own.drop n) (own ++ t) := by
  refine Sel.perm (t := []) ?_
  rw [List.append_nil]
  have h : (own.take n ++ own.drop n ++ t).Perm (own.take n ++ t ++ own.drop n) := by
    rw [List.append_assoc, List.append_assoc]
    exact List.Perm.append_left _ List.perm_append_comm
  rw [List.take_append_drop] at h
  exact h
theorem perm_eraseIdx {α : Type} : ∀ {l : List α} {j : Nat} {y : α}, l[j]? = some y → l.Perm (y :: l.eraseIdx j)
  | [], _, _, h => by simp at h
  | x :: l, 0, y, h => by simp at h; subst h; exact List.Perm.refl _
  | x :: l, j + 1, y, h => by
    have ih := perm_eraseIdx (l := l) (j := j) (y := y) (by simpa using h)
    exact (ih.cons x).trans (List.Perm.swap _ _ _)
section
variable {C : Cx} {Q : Post} {env : Env} {own : Own} {D : List Deferred} {ops : Array Oper}
theorem SXL.insN {l : List Oper} {t : Own} (n : Nat) (h : SXL C ops l Q ⟨env, own.take n ++ t ++ own.drop n, D⟩) : SXL C ops l Q ⟨env, own ++ t, D⟩ :=
  SXL.le (s' := ⟨env, own.take n ++ t ++ own.drop n, D⟩) ⟨EnvSub.refl _, insN_sel n own t, rfl⟩ h
theorem SX.insN {c : Code} {t : Own} (n : Nat) (h : SX C c Q ⟨env, own.take n ++ t ++ own.drop n, D⟩) : SX C c Q ⟨env, own ++ t, D⟩ :=
  SX.le (s' := ⟨env, own.take n ++ t ++ own.drop n, D⟩) ⟨EnvSub.refl _, insN_sel n own t, rfl⟩ h
variable {α : Type}
/-- What stands at a head: behind the first n blocks others, of which the list is named. -/
def AtV (n : Nat) (K : Env) (E : α → Env) (own0 : Own) (U : α → List (Nat × (Nat × Obj))) (B : α → Own) (D : List Deferred) (x : α) : St := ⟨E x ++ K, setAll (own0.take n) (U x) ++ B x, D⟩
def MeetsV (n : Nat) (K : Env) (E : α → Env) (own0 : Own) (U : α → List (Nat × (Nat × Obj))) (B : α → Own) (D : List Deferred) (x : α) (s : St) : Prop :=
  EnvLe (E x) s.env ∧ EnvLe K s.env ∧ Sel (setAll (own0.take n) (U x) ++ B x) s.own ∧ s.D = D
theorem MeetsV.le {n : Nat} {K : Env} {E : α → Env} {own0 : Own} {U : α → List (Nat × (Nat × Obj))} {B : α → Own} {x : α} {s : St} (h : MeetsV n K E own0 U B D x s) : Le (AtV n K E own0 U B D x) s := by
  obtain ⟨h1, h2, h3, h4⟩ := h
  exact ⟨(h1.append h2).sub, h3, h4.symm⟩
theorem mid_perm {own' : Own} {n n' : Nat} (hn : n ≤ n') : own' = own'.take n ++ (own'.drop n).take (n' - n) ++ own'.drop n' := by
  have h1 : own'.drop n' = (own'.drop n).drop (n' - n) := by rw [List.drop_drop]; congr 1; omega
  rw [h1, List.append_assoc, List.take_append_drop, List.take_append_drop]
/-- .. no block more. -/
theorem MeetsV.mk0 {n : Nat} {K : Env} {E : α → Env} {own0 : Own} {U : α → List (Nat × (Nat × Obj))} {B : α → Own} {x : α} {env' : Env} {own' : Own} (n' : Nat) (t : Own) (h1 : EnvLe (E x) env') (h2 : EnvLe K env')
    (h3 : setAll (own0.take n) (U x) = own'.take n) (h4 : own'.drop n' = B x ++ t) (hn : Nat.ble n n' = true := by rfl) : MeetsV n K E own0 U B D x ⟨env', own', D⟩ := by
  refine ⟨h1, h2, ?_, rfl⟩
  rw [h3]
  refine Sel.perm (t := (own'.drop n).take (n' - n) ++ t) ?_
  have h := mid_perm (own' := own') (Nat.le_of_ble_eq_true hn)
  rw [h4] at h
  show own'.Perm _
  refine (List.Perm.of_eq h).trans ?_
  rw [List.append_assoc, List.append_assoc]
  refine List.Perm.append_left _ ?_
  rw [← List.append_assoc, ← List.append_assoc]
  exact List.Perm.append_right _ List.perm_append_comm
/-- .. one block more: it stood at j. -/
theorem MeetsV.mk1 {n : Nat} {K : Env} {E : α → Env} {own0 : Own} {U : α → List (Nat × (Nat × Obj))} {B : α → Own} {x : α} {env' : Env} {own' : Own} (n' j : Nat) (b t : Own) (y : Nat × Obj) (h1 : EnvLe (E x) env') (h2 : EnvLe K env')
    (h3 : setAll (own0.take n) (U x) = own'.take n) (h4 : own'.drop n' = b ++ t) (hy : (own'.drop n)[j]? = some y) (hB : B x = b ++ [y]) (hn : Nat.ble n n' = true := by rfl) (hj : Nat.blt (n + j) n' = true := by rfl) : MeetsV n K E own0 U B D x ⟨env', own', D⟩ := by
  refine ⟨h1, h2, ?_, rfl⟩
  rw [h3, hB]
  have hn' := Nat.le_of_ble_eq_true hn
  have hj' : n + j < n' := by simpa [Nat.blt_eq] using hj
  have hm : ((own'.drop n).take (n' - n))[j]? = some y := by rw [List.getElem?_take, if_pos (by omega)]; exact hy
  have hp := perm_eraseIdx hm
  refine Sel.perm (t := ((own'.drop n).take (n' - n)).eraseIdx j ++ t) ?_
  have h := mid_perm (own' := own') hn'
  rw [h4] at h
  refine (List.Perm.of_eq h).trans ?_
  simp only [List.append_assoc]
  refine List.Perm.append_left _ ?_
  refine (List.Perm.append_right _ hp).trans ?_
  simp only [List.cons_append]
  have h5 : (y :: (((own'.drop n).take (n' - n)).eraseIdx j ++ (b ++ t))).Perm (b ++ (y :: (((own'.drop n).take (n' - n)).eraseIdx j ++ t))) := by
    refine List.Perm.trans ?_ List.perm_middle.symm
    refine List.Perm.cons _ ?_
    rw [← List.append_assoc, ← List.append_assoc]
    exact List.Perm.append_right _ List.perm_append_comm
  simpa using h5
theorem selV0 {n n' : Nat} {own' A b t : Own} (h3 : A = own'.take n) (h4 : own'.drop n' = b ++ t) (hn : Nat.ble n n' = true) : Sel (A ++ b) own' := by
  have h := MeetsV.mk0 (K := []) (E := fun _ : Unit => []) (own0 := A) (n := n) (U := fun _ => []) (B := fun _ => b) (D := []) (x := ()) (env' := []) n' t trivial trivial (by rw [h3]; simp [setAll, List.take_take]) h4 hn
  have h2 := h.2.2.1
  have e : setAll (A.take n) [] = A := by rw [h3]; simp [setAll, List.take_take]
  rw [e] at h2
  exact h2
theorem selV1 {n n' j : Nat} {own' A b t : Own} {y : Nat × Obj} (h3 : A = own'.take n) (h4 : own'.drop n' = b ++ t) (hy : (own'.drop n)[j]? = some y) (hn : Nat.ble n n' = true) (hj : Nat.blt (n + j) n' = true) : Sel (A ++ (b ++ [y])) own' := by
  have h := MeetsV.mk1 (K := []) (E := fun _ : Unit => []) (own0 := A) (n := n) (U := fun _ => []) (B := fun _ => b ++ [y]) (D := []) (x := ()) (env' := []) n' j b t y trivial trivial (by rw [h3]; simp [setAll, List.take_take]) h4 hy rfl hn hj
  have h2 := h.2.2.1
  have e : setAll (A.take n) [] = A := by rw [h3]; simp [setAll, List.take_take]
  rw [e] at h2
  exact h2
/-! ### heads at which the blocks are written out -/
def AtW (K : Env) (E : α → Env) (L B : α → Own) (D : List Deferred) (x : α) : St := ⟨E x ++ K, L x ++ B x, D⟩
def MeetsW (K : Env) (E : α → Env) (L B : α → Own) (D : List Deferred) (x : α) (s : St) : Prop := EnvLe (E x) s.env ∧ EnvLe K s.env ∧ Sel (L x ++ B x) s.own ∧ s.D = D
theorem MeetsW.le {K : Env} {E : α → Env} {L B : α → Own} {x : α} {s : St} (h : MeetsW K E L B D x s) : Le (AtW K E L B D x) s := by
  obtain ⟨h1, h2, h3, h4⟩ := h
  exact ⟨(h1.append h2).sub, h3, h4.symm⟩
theorem MeetsW.mk0 {K : Env} {E : α → Env} {L B : α → Own} {x : α} {env' : Env} {own' : Own} (n n' : Nat) (h1 : EnvLe (E x) env') (h2 : EnvLe K env') (h3 : L x = own'.take n) (h4 : own'.drop n' = B x) (hn : Nat.ble n n' = true := by rfl) : MeetsW K E L B D x ⟨env', own', D⟩ :=
  ⟨h1, h2, selV0 (t := []) h3 (by rw [List.append_nil]; exact h4) hn, rfl⟩
theorem MeetsW.mk1 {K : Env} {E : α → Env} {L B : α → Own} {x : α} {env' : Env} {own' : Own} (n n' j : Nat) (b : Own) (y : Nat × Obj) (h1 : EnvLe (E x) env') (h2 : EnvLe K env') (h3 : L x = own'.take n) (h4 : own'.drop n' = b) (hy : (own'.drop n)[j]? = some y) (hB : B x = b ++ [y])
    (hn : Nat.ble n n' = true := by rfl) (hj : Nat.blt (n + j) n' = true := by rfl) : MeetsW K E L B D x ⟨env', own', D⟩ :=
  ⟨h1, h2, by show Sel (L x ++ B x) own'; rw [hB]; exact selV1 (t := []) h3 (by rw [List.append_nil]; exact h4) hy hn hj, rfl⟩
/-- .. new blocks behind all. -/
theorem MeetsW.mkP {K : Env} {E : α → Env} {L B : α → Own} {x : α} {env' : Env} {own' : Own} (t : Own) (h1 : EnvLe (E x) env') (h2 : EnvLe K env') (h3 : L x ++ B x ++ t = own') : MeetsW K E L B D x ⟨env', own', D⟩ :=
  ⟨h1, h2, h3 ▸ Sel.pre _ t, rfl⟩
/-- .. where blocks have changed their places. -/
theorem MeetsW.mkS {K : Env} {E : α → Env} {L B : α → Own} {x : α} {env' : Env} {own' : Own} (is : List Nat) (h1 : EnvLe (E x) env') (h2 : EnvLe K env') (h3 : selI own' is = some (L x ++ B x)) (h4 : distinct is = true := by rfl) : MeetsW K E L B D x ⟨env', own', D⟩ :=
  ⟨h1, h2, Sel.of is h3 h4, rfl⟩
theorem SX.loopW {c : Code} (ks : List Nat) {K : Env} (hK : selE env ks = some K) (E : α → Env) (L B : α → Own) (F : α → Prop) (μ : α → Nat) (x0 : α) (hF0 : F x0)
    (hE : EnvLe (E x0) env) (hU : L x0 ++ B x0 = own)
    (round : ∀ x, F x → SX C c (thenQ (fun s' => ∃ x', MeetsW K E L B D x' s' ∧ F x' ∧ μ x' < μ x) Q) (AtW K E L B D x)) : SX C (.loop c) Q ⟨env, own, D⟩ :=
  SX.loop (AtW K E L B D) F μ x0 hF0 (MeetsW.le ⟨hE, selE_le hK, by rw [hU]; exact Sel.refl _, rfl⟩) fun x hx =>
    (round x hx).mono fun e s hq => by
      cases e
      case normal => obtain ⟨x', h1, h2, h3⟩ := hq; exact ⟨x', h1.le, h2, h3⟩
      all_goals exact hq
theorem stepQ.mkL0 {m f i : Nat} {kt : Lt} {listed : Array Bool} {s s' : St} (hl : lateB ops kt.late i = true) (h1 : maskL kt.mask s'.own = maskL kt.mask s.own) (h2 : s'.D = s.D) (h3 : SXA C ops m Q kt f (listed.setIfInBounds i true) s') : stepQ C ops m Q kt f listed i s .normal s' :=
  stepQ.mkL [] hl (by rw [List.append_nil]; exact h1) h2 h3
theorem retQ.selS {rs : List ResultVar} {R : Value → Own → Prop} {e : Exit} {o : Own} (hS : Sel o own) (h : retQ C rs (fun v _ => R v o) e ⟨env, own, []⟩) : retQ C rs R e ⟨env, own, []⟩ := by
  cases e <;> first | exact h.elim | skip
  all_goals
    obtain ⟨own0, hu, vs, hrs, own', hs, hR⟩ := h
    cases hu
    exact ⟨own, .nil _, vs, hrs, o, hS, hR⟩
theorem Sel.at {x : Nat × Obj} {i : Nat} (h : own[i]? = some x) : Sel [x] own := Sel.of [i] (by simp [selI, h]) (by simp [distinct])
/-- Some of the first n, and all behind them. -/
theorem Sel.keepV (n : Nat) (is : List Nat) {o : Own} (hs : selI (own.take n) is = some o) (hd : distinct is = true) : Sel (o ++ own.drop n) own := by
  intro w0 w hI
  have h1 : Inv w0 o w := (hI.weaken (List.take_sublist n own)).sel hs hd
  have h2 : Inv w0 (own.drop n) w := hI.weaken (List.drop_sublist n own)
  refine ⟨hI.below, fun p hp hl => ?_, ?_⟩
  · rcases List.mem_append.1 hp with hp | hp
    · exact h1.mem p hp hl
    · exact h2.mem p hp hl
  · rw [List.filter_append, List.map_append, List.nodup_append]
    refine ⟨h1.nodup, h2.nodup, fun a ha b hb e => ?_⟩
    obtain ⟨p, hp, rfl⟩ := List.mem_map.1 ha
    obtain ⟨q, hq, rfl⟩ := List.mem_map.1 hb
    obtain ⟨hp1, hp2⟩ := List.mem_filter.1 hp
    obtain ⟨hq1, hq2⟩ := List.mem_filter.1 hq
    obtain ⟨j, _, hj⟩ := selI_mem hs hp1
    obtain ⟨k, hk⟩ := List.getElem?_of_mem hq1
    have hjn : j < n := by
      have := (List.getElem?_eq_some_iff.1 hj).1
      simp at this
      omega
    have hj' : own[j]? = some p := by
      rw [List.getElem?_take, if_pos hjn] at hj
      exact hj
    have hk' : own[n + k]? = some q := by
      rw [List.getElem?_drop] at hk
      exact hk
    exact nodup_fst_ne hI.nodup hj' hk' hp2 hq2 (by omega) e
end
end Go.X

/- The calculus' rules: a range over a function that a round may leave by 'return'. Nothing of the program stands here. -/
namespace Go.X
open Go Go.RowKit
/-- The record of a loop that a round has left by 'return'. -/
abbrev LJ (fn : FuncId) (T : Array Value) (ps : Array Tmp) (assign body : Code) (r : Nat) (st : LoopState) : Obj := .loop { state := st, pending := some .ret, fn, tmps := T, params := ps, assign, body, defers := r }
/-- What is asked when the function that is ranged over ends: no round has left the loop, or one has. -/
def rfQX (Q : Post) (env : Env) (D : List Deferred) (ob oj : LoopState → Obj) (r l : Nat) (own : Own) : Prop :=
  (∃ i, own[i]? = some (l, ob .ready) ∧ Q .normal ⟨env, own.set i (l, ob .exhausted), { target := .collected r, args := #[] } :: D⟩) ∨
  (∃ i, own[i]? = some (l, oj .done) ∧ Q .ret ⟨env, own.set i (l, oj .exhausted), { target := .collected r, args := #[] } :: D⟩)
section
variable {C : Cx} {Q : Post} {env : Env} {own : Own} {D : List Deferred} {ops : Array Oper} {rest : List Oper}
variable {d : Nat} {ty : TypeId} {pos : String} {aft : Array Edge} {gd : Option (Nat × Bool)} {y : Operand}
theorem SX.rangeFuncX {g : Operand} {ps : Array Tmp} {assign body : Code} {f nf : Nat} {fnc : Func} {cf : Code} {first capt : List Value} {rs : List ResultVar}
    (hg : ev env g = some (.func (.func f) ⟨first⟩ ⟨capt⟩)) (hok : fnOk C.P f = true) (hf : C.P.funcs[f]? = some fnc) (hb : fnc.body = some cf) (hn : fnc.ntmps = nf) (hr : fnc.results.toList = rs) (hl : Nat.ble (first.length + 1 + capt.length) nf = true)
    (h : ∀ fn T r l (ob oj : LoopState → Obj), Held C.n env T → (∀ st, ob st = LR fn T ps assign body r st) → (∀ st, oj st = LJ fn T ps assign body r st) → SX ⟨C.P, none, nf, C.w0, false⟩ cf (retQ ⟨C.P, none, nf, C.w0, false⟩ rs fun _ o => rfQX Q env D ob oj r l o)
      ⟨envOf (first ++ [.func (.yield l) ⟨[]⟩ ⟨[]⟩] ++ capt) 0, own ++ [(r, .deferred (some [])), (l, ob .ready)], []⟩) (hrd : C.rd = none := by rfl) : SX C (.rangeFunc g ps assign body) Q ⟨env, own, D⟩ := by
  intro a w hc
  refine wpIn_rangeFunc fun fn _ => ?_
  have hro : (FW C.rd).round = none := hrd
  rw [hro]
  obtain ⟨W1, hW1⟩ : ∃ W1, (w.alloc (.deferred (some []))).alloc (LR fn a.tmps ps assign body w.heap.size .ready) = W1 := ⟨_, rfl⟩
  have hI1 : Inv C.w0 (own ++ [(w.heap.size, .deferred (some [])), (w.heap.size + 1, LR fn a.tmps ps assign body w.heap.size .ready)]) W1 := by
    rw [← hW1]
    have h1 := hc.2.2.append (Inv.alloc1 w (.deferred (some [])))
    have h2 := h1.append (Inv.alloc1 (w.alloc (.deferred (some []))) (LR fn a.tmps ps assign body w.heap.size .ready))
    rw [List.append_assoc] at h2
    simpa using h2
  refine ⟨w.heap.size + 1, [{ target := .collected w.heap.size, args := #[] }], W1, { target := .fn (.func f) ⟨capt⟩, args := ⟨first⟩ ++ #[.func (.yield (w.heap.size + 1)) #[] #[]] }, W1, f, ⟨first ++ [.func (.yield (w.heap.size + 1)) ⟨[]⟩ ⟨[]⟩] ++ capt⟩, W1, ?_, ?_, fun _ _ => trivial, ?_, fun hx => (by cases hx), ?_⟩
  · rw [← hW1]; exact run_enterLoop_outer _ _ _ _ _
  · simp only [resolve, Deferred.ofValue, hc.1.eval hg]
    simp [Act.eval]
  · simp [invoke, run_callFunc hok]
  · refine callsIn_FW (Calls.mono (Calls.of_SX hI1 hf hb hn hr (by rw [Nat.ble_eq] at hl ⊢; simp only [List.length_append, List.length_singleton]; exact hl) (h fn a.tmps w.heap.size (w.heap.size + 1) (LR fn a.tmps ps assign body w.heap.size) (LJ fn a.tmps ps assign body w.heap.size) hc.1 (fun _ => rfl) (fun _ => rfl))) ?_)
    rintro e w' ⟨v, own', rfl, hI', ⟨i, hi, hQ⟩ | ⟨i, hi, hQ⟩⟩
    · have hb2 := (hI'.get hi rfl).2
      exact ⟨none, _, run_endLoop hb2 (by simp), ⟨env, own'.set i (w.heap.size + 1, LR fn a.tmps ps assign body w.heap.size .exhausted), { target := .collected w.heap.size, args := #[] } :: D⟩, ⟨hc.1, by simp [hc.2.1], hI'.putObj hi rfl⟩, hQ⟩
    · have hb2 := (hI'.get hi rfl).2
      refine ⟨some .ret, _, run_endLoop hb2 (by simp), ?_⟩
      exact SX.ret (C := C) hQ _ _ ⟨hc.1, by simp [hc.2.1], hI'.putObj hi rfl⟩
/-- What is asked at a round's end: it ends behind its last statement, or by 'return'. -/
def roundQX (C : Cx) (ops : Array Oper) (rest : List Oper) (Q : Post) (env : Env) (D : List Deferred) (d : Nat) (ob oj : LoopState → Obj) (l i : Nat) : Post
  | .normal, s => s.own[i]? = some (l, ob .busy) ∧ SXL C ops rest Q ⟨(d, .bool (decide True)) :: env, s.own.set i (l, ob .ready), D⟩
  | .ret, s => s.own[i]? = some (l, ob .busy) ∧ SXL C ops rest Q ⟨(d, .bool (decide False)) :: env, s.own.set i (l, oj .done), D⟩
  | _, _ => False
/-- A call of yield: a round, in place. -/
theorem SXL.yieldX {xs : List Operand} {ats : Array TypeId} {vs : List Value} {l r m : Nat} {fn : FuncId} {T : Array Value} {ps : List Nat} {assign body : Code} {envT : Env}
    {ob oj : LoopState → Obj} (hT : Held m envT T) (hob : ∀ st, ob st = LR fn T ⟨ps⟩ assign body r st) (hoj : ∀ st, oj st = LJ fn T ⟨ps⟩ assign body r st) (i : Nat) (hy : ev env y = some (.func (.yield l) ⟨[]⟩ ⟨[]⟩)) (hx : evl env xs = some vs) (hi : own[i]? = some (l, ob .ready)) (hlen : Nat.beq vs.length ps.length = true) (hps : (ps.all fun t => Nat.blt t m) = true)
    (h : SX ⟨C.P, some l, m, C.w0, false⟩ assign (assignQ (fun s => SX ⟨C.P, some l, m, C.w0, false⟩ body (roundQX C ops rest Q env D d ob oj l i) s) ob l i) ⟨zipE ps vs envT, own, []⟩)
    (hd : Nat.blt d C.n = true := by rfl) (hw : Wanted ops gd env = some true := by rfl) (hdr : C.dr = false := by rfl) :
    SXL C ops ({ dst := some d, op := .call { callee := .value y, args := ⟨xs⟩, argTypes := ats }, type := ty, pos, after := aft, guard := gd } :: rest) Q ⟨env, own, D⟩ := by
  refine SXL.ofn hdr ?_
  intro a w hc
  have hw' : Region.wanted ({ dst := some d, op := .call { callee := .value y, args := ⟨xs⟩, argTypes := ats }, type := ty, pos, after := aft, guard := gd } : Oper) (yielded ops a.tmps) = true := hc.1.wanted hw
  simp only [wpListIn, hw', if_true]
  refine ⟨about_true rfl, ?_⟩
  obtain rfl : ob = LR fn T ⟨ps⟩ assign body r := funext hob
  obtain rfl : oj = LJ fn T ⟨ps⟩ assign body r := funext hoj
  have hlr := (hc.2.2.get hi rfl).2
  have h1 := evl_map hc.1 hx
  have hyr := run_yield (P := C.P) (args := ⟨vs⟩) hlr (by simpa using Nat.eq_of_beq_eq_true hlen)
  have hrun : (execOp a.eval { dst := some d, op := .call { callee := .value y, args := ⟨xs⟩, argTypes := ats }, type := ty, pos, after := aft, guard := gd }).run C.P w = .ok (.round l fn ((ps.zip vs).foldl (fun tmps (p : Nat × Value) => tmps.setIfInBounds p.1 p.2) T) assign body) w := by
    simp only [execOp, resolve, Deferred.ofValue, hc.1.eval hy]
    simp only [List.map_toArray, h1, invoke]
    simp [hyr]
  rw [Oper.semAt_eq _ _ _ (fun _ e => by cases e), hrun]
  refine ⟨fun hx => (by cases hx), ?_⟩
  refine roundIn_of_wpIn trivial (wpIn_mono (h { tmps := _, defers := [] } w ⟨agree_zip hps hT, rfl, hc.2.2⟩) ?_)
  rintro e a1 w1 ⟨s1, hc1, hq1⟩
  cases e <;> first | exact hq1.elim | skip
  obtain ⟨hi1, hq1⟩ := hq1
  have hl1 := (hc1.2.2.get hi1 rfl).2
  refine ⟨_, run_beginRound hl1 rfl, wpIn_mono (hq1 a1 _ ⟨hc1.1, hc1.2.1, hc1.2.2.putObj hi1 rfl⟩) ?_⟩
  rintro e a2 w2 ⟨s2, hc2, hq2⟩
  cases e <;> first | exact hq2.elim | skip
  · obtain ⟨hi2, hq2⟩ := hq2
    have hl2 := (hc2.2.2.get hi2 rfl).2
    refine ⟨_, _, run_endRound none hl2, ?_⟩
    exact hq2.ton hdr _ _ ⟨hc.1.put hd _, by rw [put_defers]; exact hc.2.1, hc2.2.2.putObj hi2 rfl⟩
  · obtain ⟨hi2, hq2⟩ := hq2
    have hl2 := (hc2.2.2.get hi2 rfl).2
    refine ⟨_, _, run_endRound (some .ret) hl2, ?_⟩
    exact hq2.ton hdr _ _ ⟨hc.1.put hd _, by rw [put_defers]; exact hc.2.1, hc2.2.2.putObj hi2 rfl⟩
end
/-! ### another base: what lies there now is kept from here on -/
/-- More is known of the blocks than their cells: what each world shows in which they lie. -/
def Own.Has (own : Own) (p : World → Prop) : Prop := ∀ w0 w, Inv w0 own w → p w
theorem Own.Has.of {own own' : Own} {p : World → Prop} (h : Own.Has own p) (hs : Sel own own') : Own.Has own' p := fun w0 w hI => h w0 w (hs w0 w hI)
theorem Own.Has.and {own : Own} {p q : World → Prop} (h : Own.Has own p) (k : Own.Has own q) : Own.Has own fun w => p w ∧ q w := fun w0 w hI => ⟨h w0 w hI, k w0 w hI⟩
end Go.X

/- The calculus' rules: '==' on bools. Nothing of the program stands here. -/
namespace Go.X
open Go Go.RowKit
def isBoolP (P : Program) (t : TypeId) : Bool := match P.underlying t with | some .bool => true | _ => false
section
variable {C : Cx} {Q : Post} {env : Env} {own : Own} {D : List Deferred} {ops : Array Oper} {rest : List Oper}
variable {d : Nat} {ty : TypeId} {pos : String} {aft : Array Edge} {g : Option (Nat × Bool)} {x y : Operand} {T T' : TypeId} {p q : Prop} [Decidable p] [Decidable q]
/-! ### where both sides are known to be the same -/
end
end Go.X

/- The calculus' rules: conversions between integers, shifts, bits. Nothing of the program stands here. -/
namespace Go.X
open Go Go.RowKit
def cvP (P : Program) (src dst : TypeId) (k : IntKind) : Bool := match P.underlying src, P.underlying dst with | some _, some (.int j) => decide (j = k) | _, _ => false
section
variable {C : Cx} {Q : Post} {env : Env} {own : Own} {D : List Deferred} {ops : Array Oper} {rest : List Oper}
variable {d : Nat} {ty : TypeId} {pos : String} {aft : Array Edge} {g : Option (Nat × Bool)} {x y : Operand} {T T' : TypeId} {A B : Int} {k : IntKind}
theorem SXL.shr {j : IntKind} (hx : ev env x = some (.int k A)) (hy : ev env y = some (.int j B)) (hb : 0 ≤ B)
    (h : SXL C ops rest Q ⟨(d, .int k (A.fdiv (2 ^ (Min.min B.toNat k.bits)))) :: env, own, D⟩) (hd : Nat.blt d C.n = true := by rfl) (hw : Wanted ops g env = some true := by rfl) :
    SXL C ops ({ dst := some d, op := .binOp .shr T x y T', type := ty, pos, after := aft, guard := g } :: rest) Q ⟨env, own, D⟩ :=
  SXL.bin hx hy (r := .int k (A.fdiv (2 ^ (Min.min B.toNat k.bits)))) (fun w => by
    show (Op.shift .shr k A j B).run C.P w = _
    unfold Op.shift
    rw [if_neg (by omega)]; rfl) hd hw h
theorem SXL.and (hx : ev env x = some (.int k A)) (hy : ev env y = some (.int k B))
    (h : SXL C ops rest Q ⟨(d, .int k (k.wrap ((BitVec.ofInt k.bits A &&& BitVec.ofInt k.bits B).toNat))) :: env, own, D⟩) (hd : Nat.blt d C.n = true := by rfl) (hw : Wanted ops g env = some true := by rfl) :
    SXL C ops ({ dst := some d, op := .binOp .and T x y T', type := ty, pos, after := aft, guard := g } :: rest) Q ⟨env, own, D⟩ :=
  SXL.bin hx hy (r := .int k (k.wrap ((BitVec.ofInt k.bits A &&& BitVec.ofInt k.bits B).toNat))) (fun w => by
    have e : (do eqGuard .and T x y (.int k A) (.int k B); binOp .and T (.int k A) (.int k B) : Sem Value) = Op.intBits .and k A B := by
      simp [eqGuard, binOp]
    rw [e]; rfl) hd hw h
end
end Go.X

/- The calculus' rules: bits of small numbers, pairs of bools. Nothing of the program stands here. -/
namespace Go.X
open Go Go.RowKit
theorem fdiv_nat (b i : Nat) : ((b : Int)).fdiv (2 ^ i) = ((b / 2 ^ i : Nat) : Int) := by
  rw [Int.fdiv_eq_ediv_of_nonneg _ (by exact_mod_cast Nat.zero_le (2 ^ i))]
  norm_cast
theorem and_one (m : Nat) (h : m < 9223372036854775808) : IntKind.i64.wrap (((BitVec.ofInt 64 (m : Int) &&& BitVec.ofInt 64 1).toNat : Nat) : Int) = ((m % 2 : Nat) : Int) := by
  have e : (BitVec.ofInt 64 (m : Int) &&& BitVec.ofInt 64 1).toNat = m % 2 := by
    have h1 : BitVec.ofInt 64 (m : Int) = BitVec.ofNat 64 m := by simp
    have h2 : BitVec.ofInt 64 1 = BitVec.ofNat 64 1 := by decide
    rw [h1, h2, BitVec.toNat_and, BitVec.toNat_ofNat, BitVec.toNat_ofNat, Nat.mod_eq_of_lt (show m < 2 ^ 64 by omega)]
    exact Nat.and_one_is_mod m
  rw [e]
  exact IntWalk.i64_in _ (by omega)
section
variable {C : Cx} {Q : Post} {env : Env} {own : Own} {D : List Deferred} {ops : Array Oper} {rest : List Oper}
variable {d : Nat} {ty : TypeId} {pos : String} {aft : Array Edge} {g : Option (Nat × Bool)} {x y : Operand} {T T' : TypeId}
theorem SXL.shlN {n : Nat} (hx : ev env x = some (.int .i64 1)) (hy : ev env y = some (.int .i64 (n : Int))) (hn : n ≤ 60)
    (h : SXL C ops rest Q ⟨(d, .int .i64 ((2 ^ n : Nat) : Int)) :: env, own, D⟩) (hd : Nat.blt d C.n = true := by rfl) (hw : Wanted ops g env = some true := by rfl) :
    SXL C ops ({ dst := some d, op := .binOp .shl T x y T', type := ty, pos, after := aft, guard := g } :: rest) Q ⟨env, own, D⟩ :=
  SXL.bin hx hy (r := .int .i64 ((2 ^ n : Nat) : Int)) (fun w => by
    show (Op.shift .shl .i64 1 .i64 (n : Int)).run C.P w = _
    unfold Op.shift
    rw [if_neg (by omega)]
    have e : Min.min (n : Int).toNat IntKind.i64.bits = n := by show Min.min (n : Int).toNat 64 = n; omega
    rw [e]
    have hb : (2 : Nat) ^ n ≤ 1152921504606846976 := Nat.le_trans (Nat.pow_le_pow_right (by omega) hn) (by decide)
    have e2 : (1 : Int) * 2 ^ n = ((2 ^ n : Nat) : Int) := by push_cast; omega
    generalize (2 ^ n : Nat) = m at hb e2 ⊢
    show (pure (Value.int .i64 (IntKind.i64.wrap (1 * 2 ^ n))) : Sem Value).run C.P w = _
    rw [e2, IntWalk.i64_in _ (by omega)]; rfl) hd hw h
theorem SXL.shrN {b i : Nat} (hx : ev env x = some (.int .i64 (b : Int))) (hy : ev env y = some (.int .i64 (i : Int))) (hi : i ≤ 60)
    (h : SXL C ops rest Q ⟨(d, .int .i64 ((b / 2 ^ i : Nat) : Int)) :: env, own, D⟩) (hd : Nat.blt d C.n = true := by rfl) (hw : Wanted ops g env = some true := by rfl) :
    SXL C ops ({ dst := some d, op := .binOp .shr T x y T', type := ty, pos, after := aft, guard := g } :: rest) Q ⟨env, own, D⟩ :=
  SXL.shr hx hy (by omega) (by
    have e : Min.min (i : Int).toNat IntKind.i64.bits = i := by show Min.min (i : Int).toNat 64 = i; omega
    rw [e, fdiv_nat]; exact h) hd hw
theorem SXL.and1 {m : Nat} (hx : ev env x = some (.int .i64 (m : Int))) (hy : ev env y = some (.int .i64 1)) (hm : m < 9223372036854775808)
    (h : SXL C ops rest Q ⟨(d, .int .i64 ((m % 2 : Nat) : Int)) :: env, own, D⟩) (hd : Nat.blt d C.n = true := by rfl) (hw : Wanted ops g env = some true := by rfl) :
    SXL C ops ({ dst := some d, op := .binOp .and T x y T', type := ty, pos, after := aft, guard := g } :: rest) Q ⟨env, own, D⟩ :=
  SXL.and hx hy (by
    have e := and_one m hm
    show SXL C ops rest Q ⟨(d, .int .i64 (IntKind.i64.wrap (((BitVec.ofInt 64 (m : Int) &&& BitVec.ofInt 64 1).toNat : Nat) : Int))) :: env, own, D⟩
    rw [e]; exact h) hd hw
/-! ### pairs of bools -/
def boolArr2 (P : Program) (T : TypeId) : Bool := match P.underlying T with
  | some (.array 2 e) => isBoolP P e && (match sizeP P e with | some 1 => true | _ => false) && (match shapeT P e with | some none => true | _ => false)
  | _ => false
theorem run_b2 {P : Program} {T : TypeId} (h : boolArr2 P T = true) (m : Nat) (a b c d : Bool) :
    ∀ w, (Op.equalIn (m + 1 + 1) T (.agg ⟨[.bool a, .bool b]⟩) (.agg ⟨[.bool c, .bool d]⟩)).run P w = .ok (a == c && b == d) w := by
  intro w
  unfold boolArr2 at h
  split at h
  · rename_i e hu
    simp only [Bool.and_eq_true] at h
    obtain ⟨⟨hb, hz⟩, hs⟩ := h
    have hz : sizeP P e = some 1 := by split at hz <;> simp_all
    have hs : shapeT P e = some none := by split at hs <;> simp_all
    have hbe : ∀ u v : Bool, ∀ w, (Op.equalIn (m + 1) e (.bool u) (.bool v)).run P w = .ok (u == v) w := fun u v w => by
      unfold isBoolP at hb
      split at hb
      · rename_i hu2
        unfold Op.equalIn
        simp [run_underlying hu2, Result.andThen]
      · cases hb
    have hp : ∀ (l : List Value) (i : Nat) (u : Value), l[i]? = some u → ∀ w, (part e ⟨l⟩ (i * 1)).run P w = .ok u w := fun l i u hl w => by
      simp [part, Sem.run_bind, run_isAgg hs, Result.andThen, hl]
    have h0 : ∀ (u v : Value), ∀ w, (part e ⟨[u, v]⟩ (0 * 1)).run P w = .ok u w := fun u v w => hp _ 0 u rfl w
    have h1 : ∀ (u v : Value), ∀ w, (part e ⟨[u, v]⟩ (1 * 1)).run P w = .ok v w := fun u v w => hp _ 1 v rfl w
    have key : ∀ (E : Value → Value → Sem Bool), (∀ u v : Bool, ∀ w, (E (.bool u) (.bool v)).run P w = .ok (u == v) w) → ((do
      let r ← forIn [0, 1] ((none, ()) : Option Bool × Unit) fun i _ => do
        if (!(← E (← part e ⟨[.bool a, .bool b]⟩ (i * 1)) (← part e ⟨[.bool c, .bool d]⟩ (i * 1)))) = true then pure (ForInStep.done (some false, ())) else pure (ForInStep.yield (none, ()))
      match r.1 with
      | some a => pure a
      | none => pure true : Sem Bool)).run P w = .ok (a == c && b == d) w := by
      intro E hE
      simp only [List.forIn_cons, List.forIn_nil, Sem.run_bind, h0, Result.andThen_ok, hE]
      cases hac : (a == c)
      · simp [Result.andThen]
      · simp only [Bool.not_true, Bool.false_eq_true, if_false, Sem.run_pure, Sem.run_bind, Result.andThen_ok, h1, hE, Bool.true_and]
        cases hbd : (b == d) <;> simp [Result.andThen]
    have := key _ hbe
    unfold Op.equalIn
    simp only [Sem.run_bind, run_underlying hu, Result.andThen_ok, run_sizeOf hz]
    simp only [Std.Legacy.Range.forIn_eq_forIn_range', Std.Legacy.Range.size]
    have hr : List.range' 0 ((2 - 0 + 1 - 1) / 1) = [0, 1] := rfl
    rw [hr]
    refine Eq.trans ?_ this
    simp only [Sem.run_bind]
    congr 1
    funext a w'
    obtain ⟨_ | _, _⟩ := a <;> rfl
  · cases h
theorem run_eql_b2 {P : Program} {T : TypeId} (h : boolArr2 P T = true) (hg : P.eqGuardType P.depth T = false) {x y : Operand} (a b c d : Bool) :
    ∀ w, (do eqGuard .eql T x y (.agg ⟨[.bool a, .bool b]⟩) (.agg ⟨[.bool c, .bool d]⟩); binOp .eql T (.agg ⟨[.bool a, .bool b]⟩) (.agg ⟨[.bool c, .bool d]⟩) : Sem Value).run P w = .ok (.bool (a == c && b == d)) w := by
  intro w
  have key := run_b2 h 9998 a b c d w
  rw [Sem.run_bind, run_eqGuard_agg w .eql T x y ⟨[.bool a, .bool b]⟩ ⟨[.bool c, .bool d]⟩ hg, Result.andThen_ok, run_eql_struct, key, Result.andThen_ok]
theorem SXL.eqlBB {a b c e : Bool} (hT : boolArr2 C.P T = true) (hg : C.P.eqGuardType C.P.depth T = false)
    (hx : ev env x = some (.agg ⟨[.bool a, .bool b]⟩)) (hy : ev env y = some (.agg ⟨[.bool c, .bool e]⟩))
    (h : SXL C ops rest Q ⟨(d, .bool (a == c && b == e)) :: env, own, D⟩) (hd : Nat.blt d C.n = true := by rfl) (hw : Wanted ops g env = some true := by rfl) :
    SXL C ops ({ dst := some d, op := .binOp .eql T x y T', type := ty, pos, after := aft, guard := g } :: rest) Q ⟨env, own, D⟩ :=
  SXL.bin hx hy (r := .bool (a == c && b == e)) (fun w => run_eql_b2 hT hg a b c e w) hd hw h
end
theorem putB2 {a b x : Bool} {k off : Nat} (ho : off = k) (hk : k < 2) : putAt [.bool a, .bool b] off [.bool x] = some [.bool (if k = 0 then x else a), .bool (if k = 0 then b else x)] := by
  subst ho
  match off, hk with
  | 0, _ => rfl
  | 1, _ => rfl
end Go.X

/- Springs without some readings: the plain words. Nothing of Go stands here. -/
namespace Go.S
open Go.X (G)
/-- Those that are not struck. -/
def keepR (l : List Rd) (ns : List Int) : List Rd := l.filter fun x => decide (x.num ∉ ns)
/-- A spring without some readings. -/
def wo (s : Sp) (ns : List Int) : Sp := { s with reads := keepR s.reads ns }
def numsL (s : Sp) : List Int := s.reads.map (·.num)
@[simp] theorem length_numsL (s : Sp) : (numsL s).length = s.reads.length := by simp [numsL]
theorem take_snoc {α : Type} [Inhabited α] {l : List α} {k : Nat} (h : k < l.length) : l.take (k + 1) = l.take k ++ [l.getD k default] := by
  rw [List.take_add_one, List.getElem?_eq_getElem h]
  simp [h]
def gvL (s : Sp) (week : Int) : List Int := [givesLo s week, givesHi s week]
/-- On which readings a week rests. -/
def restsTo (s : Sp) (week : Int) (k : Nat) : List Int := ((s.reads.take k).filter fun x => decide (gvL (wo s [x.num]) week ≠ gvL s week)).map (·.num)
def restsL (s : Sp) (week : Int) : List Int := if toldE s week = 0 then restsTo s week s.reads.length else []
/-- The first list of so many readings more, of those from an index on, without which there is a truth. -/
def struckFrom (rec : Nat → List Int → Option (List Int)) (s : Sp) (l : List Int) : Nat → Nat → Option (List Int)
  | _, 0 => none
  | i, f + 1 => match rec (i + 1) (l ++ [(s.reads.getD i default).num]) with
    | some r => some r
    | none => struckFrom rec s l (i + 1) f
def struckP (s : Sp) : Nat → Nat → List Int → Option (List Int)
  | 0, _, l => if TrueP (wo s l) then some l else none
  | m + 1, i, l => struckFrom (struckP s m) s l i (s.reads.length - i)
/-- The readings that must be false; the error. -/
def wrongF (s : Sp) : Option (List Int) := match struckP s 0 0 [] with
  | some r => some r
  | none => match struckP s 1 0 [] with
    | some r => some r
    | none => struckP s 2 0 []
def wrongE (s : Sp) : Int := if ¬SpP s then 10 else if (wrongF s).isSome then 0 else if ¬TrueP { s with reads := [] } then 6 else 4
def wrongL (s : Sp) : List Int := if SpP s then (wrongF s).getD [] else []
end Go.S

/- What is true of a spring, and what is told of it: the plain words. Nothing of Go stands here. -/
namespace Go.S
open Go.X (G)
/-- What may be given week by week, with a rain, of what is left of each week. -/
def Tl (s : Sp) (L : List Int) (rain : Int) (t : Nat → Int) : Prop := ∀ w, w < s.weeks.toNat →
  (G L w ≤ t w ∧ t w ≤ G L (10 + w)) ∧ (∀ x ∈ s.book, x.wk = w → Wi rain x.r0 x.r1 → Wi (t w) x.g0 x.g1) ∧ (0 < w → t (w - 1) - s.fall ≤ t w ∧ t w ≤ t (w - 1))
theorem lines_tr {s : Sp} (hv : SpP s) {L : List Int} (hL : L.length = 20) (rain : Int) {w : Nat} (hw : w < s.weeks.toNat) (m : Int) : ∀ k, k ≤ s.book.length →
    ((G (linesTo s L rain k) w ≤ m ∧ m ≤ G (linesTo s L rain k) (10 + w)) ↔ ((G L w ≤ m ∧ m ≤ G L (10 + w)) ∧ ∀ x ∈ s.book.take k, x.wk = w → Wi rain x.r0 x.r1 → Wi m x.g0 x.g1))
  | 0, _ => by simp [linesTo]
  | k + 1, hk => by
    have ih := lines_tr hv hL rain hw m k (by omega)
    have h1 := hv.1; unfold HeadP at h1
    have hb := bookD hv.2.1 (show k < s.book.length by omega)
    have hlen : (linesTo s L rain k).length = 20 := by rw [linesTo_len]; exact hL
    rw [take_snoc (show k < s.book.length by omega)]
    simp only [linesTo, List.getElem?_eq_getElem (show k < s.book.length by omega), lineStep]
    have e : s.book[k] = s.book.getD k default := by simp [show k < s.book.length by omega]
    rw [e]
    generalize s.book.getD k default = x at *
    have hx : ∀ p : Prop, (∀ y ∈ s.book.take k ++ [x], y.wk = w → Wi rain y.r0 y.r1 → Wi m y.g0 y.g1) ↔ ((∀ y ∈ s.book.take k, y.wk = w → Wi rain y.r0 y.r1 → Wi m y.g0 y.g1) ∧ (x.wk = w → Wi rain x.r0 x.r1 → Wi m x.g0 x.g1)) := by
      intro _
      constructor
      · intro h; exact ⟨fun y hy => h y (by simp [hy]), h x (by simp)⟩
      · rintro ⟨h2, h3⟩ y hy
        rcases List.mem_append.1 hy with hy | hy
        · exact h2 y hy
        · simp at hy; subst hy; exact h3
    rw [hx True]
    by_cases hr : Wi rain x.r0 x.r1
    · rw [if_pos hr]
      obtain ⟨a1, a2⟩ := setA_at hlen (i := x.wk.toNat) (j := w) (by omega) (by omega) (max (G (linesTo s L rain k) x.wk.toNat) x.g0) (min (G (linesTo s L rain k) (10 + x.wk.toNat)) x.g1)
      rw [a1, a2]
      by_cases hwk : x.wk.toNat = w
      · rw [if_pos hwk, if_pos hwk, hwk]
        have e2 : x.wk = w := by omega
        constructor
        · intro h
          have := ih.1 (by omega)
          exact ⟨this.1, this.2, fun _ _ => by omega⟩
        · rintro ⟨h2, h3, h4⟩
          have := ih.2 ⟨h2, h3⟩
          have := h4 e2 hr
          omega
      · rw [if_neg hwk, if_neg hwk, ih]
        constructor
        · rintro ⟨h2, h3⟩
          exact ⟨h2, h3, fun e => by omega⟩
        · rintro ⟨h2, h3, _⟩
          exact ⟨h2, h3⟩
    · rw [if_neg hr, ih]
      constructor
      · rintro ⟨h2, h3⟩
        exact ⟨h2, h3, fun _ h => absurd h hr⟩
      · rintro ⟨h2, h3, _⟩
        exact ⟨h2, h3⟩
theorem tl_tr {s : Sp} (hv : SpP s) {L : List Int} (hL : L.length = 20) (rain : Int) (t : Nat → Int) :
    Tr s.weeks.toNat s.fall (fun w => G (linesTo s L rain s.book.length) w) (fun w => G (linesTo s L rain s.book.length) (10 + w)) t ↔ Tl s L rain t := by
  constructor
  · intro h w hw
    have h1 := h w hw
    have h2 := (lines_tr hv hL rain hw (t w) s.book.length (Nat.le_refl _)).1 ⟨h1.1, h1.2.1⟩
    rw [List.take_length] at h2
    exact ⟨h2.1, h2.2, h1.2.2⟩
  · intro h w hw
    have h1 := h w hw
    have h2 := (lines_tr hv hL rain hw (t w) s.book.length (Nat.le_refl _)).2 (by rw [List.take_length]; exact ⟨h1.1, h1.2.1⟩)
    exact ⟨h2.1, h2.2, h1.2.2⟩
theorem lv_ref {s : Sp} (hv : SpP s) {L : List Int} (hL : L.length = 20) (rain : Int) : RefP s.weeks.toNat s.fall (linesTo s L rain s.book.length) (lvL s L rain) := by
  have h1 := hv.1; unfold HeadP at h1
  exact ref_ok (by rw [linesTo_len]; exact hL) (by omega) (by omega) (by omega)
/-- Both ends may be given. -/
theorem lv_ends {s : Sp} (hv : SpP s) {L : List Int} (hL : L.length = 20) {rain : Int} (h : lvB s L rain) : Tl s L rain (fun w => G (lvL s L rain) w) ∧ Tl s L rain (fun w => G (lvL s L rain) (10 + w)) := by
  have h1 := hv.1; unfold HeadP at h1
  have hr := lv_ref hv hL rain
  have := ends_true hr.stp (fun w hw => hr.sub w (by omega)) h
  exact ⟨(tl_tr hv hL rain _).1 this.1, (tl_tr hv hL rain _).1 this.2⟩
/-- What readings leave: just the numbers that are right. -/
theorem base_mem {s : Sp} (hv : SpP s) {w : Nat} (hw : w < s.weeks.toNat) (m : Int) : (G (baseL s) w ≤ m ∧ m ≤ G (baseL s) (10 + w)) ↔ ((0 ≤ m ∧ m ≤ s.most) ∧ OkP s w m) := by
  have h1 := hv.1; unfold HeadP at h1
  have hf := flTo_mem hv s.reads.length (Nat.le_refl _) w hw
  have hb := (relW hv).rel w hw
  have hfl : flTo s s.reads.length = flL s := rfl
  rw [hfl] at hf
  constructor
  · intro h
    rcases hb with ⟨a, b⟩ | ⟨a, b⟩
    · have hle := hf.2
      have hr : 0 ≤ m ∧ m ≤ s.most := by omega
      exact ⟨hr, okP_iff.2 ((hf.1 m hr.1 hr.2).2 (by omega))⟩
    · omega
  · rintro ⟨h2, h3⟩
    have := (hf.1 m h2.1 h2.2).1 (okP_iff.1 h3)
    rcases hb with ⟨a, b⟩ | ⟨a, b⟩ <;> omega
theorem base_len {s : Sp} (hv : SpP s) : (baseL s).length = 20 := (baseL_Bd hv).len
/-- A truth: a rain, and what is given week by week. -/
def Truth (s : Sp) (rain : Int) (t : Nat → Int) : Prop := ∀ w, w < s.weeks.toNat →
  ((0 ≤ t w ∧ t w ≤ s.most) ∧ OkP s w (t w)) ∧ (∀ x ∈ s.book, x.wk = w → Wi rain x.r0 x.r1 → Wi (t w) x.g0 x.g1) ∧ (0 < w → t (w - 1) - s.fall ≤ t w ∧ t w ≤ t (w - 1))
theorem mem_rnsTo {s : Sp} {L : List Int} {r : Int} : ∀ k, r ∈ rnsTo s L k ↔ ∃ i : Nat, i < k ∧ r = s.w0 + i ∧ lvB s L r
  | 0 => by simp [rnsTo]
  | k + 1 => by
    have ih := mem_rnsTo (s := s) (L := L) (r := r) k
    simp only [rnsTo]
    split
    · rename_i hb
      rw [List.mem_append, ih]
      constructor
      · rintro (⟨i, h1, h2, h3⟩ | h)
        · exact ⟨i, by omega, h2, h3⟩
        · simp at h
          exact ⟨k, by omega, h, h ▸ hb⟩
      · rintro ⟨i, h1, h2, h3⟩
        by_cases e : i = k
        · right; simp [h2, e]
        · exact .inl ⟨i, by omega, h2, h3⟩
    · rename_i hb
      rw [ih]
      constructor
      · rintro ⟨i, h1, h2, h3⟩
        exact ⟨i, by omega, h2, h3⟩
      · rintro ⟨i, h1, h2, h3⟩
        by_cases e : i = k
        · subst e; subst h2; exact absurd h3 hb
        · exact ⟨i, by omega, h2, h3⟩
theorem mem_rnsL {s : Sp} {L : List Int} {r : Int} : r ∈ rnsL s L ↔ Wi r s.w0 s.w1 ∧ lvB s L r := by
  rw [rnsL, mem_rnsTo]
  unfold rnN
  constructor
  · rintro ⟨i, h1, h2, h3⟩
    exact ⟨by omega, h3⟩
  · rintro ⟨h1, h3⟩
    exact ⟨(r - s.w0).toNat, by omega, by omega, h3⟩
end Go.S

/- Weeks in which it fails, what gives least and most, buckets, what tells most: the plain words. Nothing of Go stands here. -/
namespace Go.S
open Go.X (G idxF)
/-! ### the first that is least -/
def amin (f : Nat → Int) : Nat → Nat
  | 0 => 0
  | k + 1 => if f (k + 1) < f (amin f k) then k + 1 else amin f k
theorem amin_le (f : Nat → Int) : ∀ k, amin f k ≤ k
  | 0 => Nat.le_refl _
  | k + 1 => by
    have := amin_le f k
    simp only [amin]
    split <;> omega
theorem amin_min (f : Nat → Int) : ∀ k i, i ≤ k → f (amin f k) ≤ f i
  | 0, i, h => by
    obtain rfl : i = 0 := by omega
    exact Int.le_refl _
  | k + 1, i, h => by
    have ih := amin_min f k
    simp only [amin]
    split
    · rename_i hlt
      by_cases e : i = k + 1
      · subst e; exact Int.le_refl _
      · have := ih i (by omega); omega
    · rename_i hlt
      by_cases e : i = k + 1
      · subst e; omega
      · exact ih i (by omega)
/-! ### sums -/
def sumTo (l : List Int) : Nat → Int
  | 0 => 0
  | k + 1 => sumTo l k + l.getD k 0
def sumL (l : List Int) : Int := sumTo l l.length
/-- The lower ends (off = 0) or the upper ones (off = 10) of so many weeks. -/
def endL (X : List Int) (off n : Nat) : List Int := (X.drop off).take n
/-! ### weeks -/
/-- The value of the first week that is so, and the error. -/
def wkE (s : Sp) (i : Int) : Int := if toldE s 0 ≠ 0 then toldE s 0 else if 0 ≤ i then 0 else 6
def wkV (s : Sp) (i : Int) : Int := if toldE s 0 ≠ 0 then 0 else if 0 ≤ i then i else 0
def loI (s : Sp) (need : Int) : Int := idxF (fun w => hLo (toldA s 0) w < need) s.weeks.toNat
def hiI (s : Sp) (need : Int) : Int := idxF (fun w => hHi (toldA s 0) w < need) s.weeks.toNat
/-! ### the truths that give least and most -/
def endsL (s : Sp) (off i : Nat) : List Int := endL ((toldA s 0).getD i []) off s.weeks.toNat
def poorI (s : Sp) : Nat := amin (fun i => sumL (endsL s 0 i)) ((toldL s 0).length - 1)
def richI (s : Sp) : Nat := amin (fun i => -sumL (endsL s 10 i)) ((toldL s 0).length - 1)
def bestR (s : Sp) (i : Nat) : Int := if toldE s 0 = 0 then (toldL s 0).getD i 0 else 0
def bestL (s : Sp) (off i : Nat) : List Int := if toldE s 0 = 0 then endsL s off i else []
/-! ### buckets -/
def fillE (s : Sp) (week bucket : Int) : Int := if ¬SpP s then 10 else if ¬Wi week 0 (s.weeks - 1) then 11 else if ¬Wi bucket 1 40 then 14 else if toldE s week ≠ 0 then toldE s week else if givesLo s week = 0 then 6 else 0
def fillLo (s : Sp) (week bucket : Int) : Int := if fillE s week bucket = 0 then (3600 * bucket) / givesHi s week else 0
def fillHi (s : Sp) (week bucket : Int) : Int := if fillE s week bucket = 0 then (3600 * bucket + givesLo s week - 1) / givesLo s week else 0
/-! ### what tells most -/
def widTo (A : List (List Int)) : Nat → Int
  | 0 => 0
  | k + 1 => widTo A k + (hHi A k - hLo A k)
def wideP (s : Sp) (L : List Int) : Int := if rnsL s L = [] then -1 else widTo (lvsL s L (rnsL s L)) s.weeks.toNat
/-- One week is known. -/
def oneW (L : List Int) (w : Nat) (n : Int) : List Int := (L.set w n).set (10 + w) n
def leftTo (s : Sp) (w : Nat) : Nat → Int
  | 0 => 0
  | k + 1 => max (leftTo s w k) (wideP s (oneW (baseL s) w (G (baseL s) w + k)))
def leftN (s : Sp) (w : Nat) : Nat := (G (baseL s) (10 + w) + 1 - G (baseL s) w).toNat
def leftP (s : Sp) (w : Nat) : Int := leftTo s w (leftN s w)
def lookI (s : Sp) : Nat := amin (leftP s) (s.weeks.toNat - 1)
def lookW (s : Sp) : Int := if toldE s 0 = 0 then lookI s else 0
def lookV (s : Sp) : Int := if toldE s 0 = 0 then leftP s (lookI s) else 0
end Go.S

/- What rains leave: bounds; rows laid one behind the other. Nothing of Go stands here. -/
namespace Go.S
open Go Go.X
theorem amin_at (f : Nat → Int) {k : Nat} (h : 1 ≤ k) : amin f k = if f k < f (amin f (k - 1)) then k else amin f (k - 1) := by
  obtain ⟨j, rfl⟩ : ∃ j, k = j + 1 := ⟨k - 1, by omega⟩
  rfl
/-- The first least so far, and what it comes to: c where there is none. -/
def bI (f : Nat → Int) (k : Nat) : Nat := amin f (k - 1)
def bV (c : Int) (f : Nat → Int) (k : Nat) : Int := if k = 0 then c else f (amin f (k - 1))
theorem getD_mem {A : List (List Int)} {i : Nat} (hi : i < A.length) : A.getD i [] ∈ A := by
  rw [List.getD_eq_getElem?_getD, List.getElem?_eq_getElem hi]
  exact List.getElem_mem hi
theorem told_lens {s : Sp} {week : Int} : (toldA s week).length = (toldL s week).length := by simp [toldA, lvsL]
theorem toldL_pos {s : Sp} {week : Int} (he : toldE s week = 0) : 0 < (toldL s week).length := by
  rw [toldL_ok he]
  exact List.length_pos_iff.2 (toldE_valid he).2.2
/-- What is told may be given: no number is below nought. -/
theorem toldA_nonneg {s : Sp} {week : Int} (he : toldE s week = 0) {i w : Nat} (hi : i < (toldA s week).length) (hw : w < s.weeks.toNat) : 0 ≤ G ((toldA s week).getD i []) w ∧ G ((toldA s week).getD i []) w ≤ G ((toldA s week).getD i []) (10 + w) ∧ G ((toldA s week).getD i []) (10 + w) ≤ s.most := by
  obtain ⟨hv, _, _⟩ := toldE_valid he
  have hm := getD_mem hi
  obtain ⟨r, hr, e⟩ := List.mem_map.1 hm
  rw [← e]
  rw [toldL_ok he] at hr
  have hb := (mem_rnsL.1 hr).2
  obtain ⟨h1, h2⟩ := lv_ends hv (base_len hv) hb
  have a := (base_mem hv hw _).1 (h1 w hw).1
  have b := (base_mem hv hw _).1 (h2 w hw).1
  exact ⟨a.1.1, hb w hw, b.1.2⟩
theorem Bd.one {L : List Int} (h : Bd L) {w : Nat} {n : Int} (hn : -1000 ≤ n ∧ n ≤ 1000) : Bd (oneW L w n) := (h.set hn).set hn
/-! ### rows, one behind the other -/
end Go.S

/- What the package spring reckons of weeks: the same. Nothing of Go stands here. -/
namespace Go.S
open Go Go.X
def cmpV (a b : Int) : Int := if a < b then -1 else if b < a then 1 else 0
theorem cmpV_neg {a b : Int} : cmpV a b < 0 ↔ a < b := by
  unfold cmpV
  split
  · simp_all
  · split <;> simp_all
/-- How wide what is told is, of all weeks together. -/
def widM (M : List Int) : Nat → Int
  | 0 => 0
  | k + 1 => widM M k + (Hi M k - Lo M k)
/-- The lists of what is left: the least of all, and where it first stands. -/
def leftsL (s : Sp) (k : Nat) : List Int := (List.range k).map (leftP s)
@[simp] theorem leftsL_len (s : Sp) (k : Nat) : (leftsL s k).length = k := by simp [leftsL]
end Go.S

/- What is told, from week to week. Nothing of Go stands here. -/
namespace Go.S
open Go.X (G idxF idxF_some idxF_none)
theorem told_of_true {s : Sp} (hv : SpP s) (ht : TrueP s) {k : Nat} (hk : k < s.weeks.toNat) : toldE s k = 0 := by
  have hH := hv.1; unfold HeadP at hH
  unfold toldE
  rw [if_neg (fun h => h hv), if_neg (fun h => h ⟨by omega, by omega⟩), if_neg ht]
theorem told_same {s : Sp} (he : toldE s 0 = 0) {k : Nat} (hk : k < s.weeks.toNat) : toldE s k = 0 ∧ toldA s k = toldA s 0 := by
  obtain ⟨hv, _, ht⟩ := toldE_valid he
  have h := told_of_true hv ht hk
  exact ⟨h, by rw [toldA, toldA, toldL_ok h, toldL_ok he]⟩
theorem gives_at {s : Sp} (he : toldE s 0 = 0) {k : Nat} (hk : k < s.weeks.toNat) : givesLo s k = hLo (toldA s 0) k ∧ givesHi s k = hHi (toldA s 0) k := by
  obtain ⟨h, ha⟩ := told_same he hk
  rw [givesLo, givesHi, if_pos h, if_pos h, ha]
  exact ⟨rfl, rfl⟩
theorem hLo_le {A : List (List Int)} {w : Nat} : ∀ k, (∀ i, i < k → hLoTo A w k ≤ G (A.getD i []) w) ∧ (∀ i, i < k → G (A.getD i []) (10 + w) ≤ hHiTo A w k)
  | 0 => ⟨fun _ h => absurd h (Nat.not_lt_zero _), fun _ h => absurd h (Nat.not_lt_zero _)⟩
  | k + 1 => by
    obtain ⟨h1, h2⟩ := hLo_le (A := A) (w := w) k
    refine ⟨fun i hi => ?_, fun i hi => ?_⟩ <;> simp only [hLoTo, hHiTo]
    · rcases Nat.lt_or_ge i k with h | h
      · have := h1 i h; omega
      · obtain rfl : i = k := by omega
        omega
    · rcases Nat.lt_or_ge i k with h | h
      · have := h2 i h; omega
      · obtain rfl : i = k := by omega
        omega
theorem hLo_ex {A : List (List Int)} {w : Nat} (hA : 0 < A.length) : ∀ k, k ≤ A.length → (∃ i, i < A.length ∧ hLoTo A w k = G (A.getD i []) w) ∧ (∃ i, i < A.length ∧ hHiTo A w k = G (A.getD i []) (10 + w))
  | 0, _ => ⟨⟨0, hA, rfl⟩, ⟨0, hA, rfl⟩⟩
  | k + 1, hk => by
    obtain ⟨⟨i, hi, e1⟩, ⟨j, hj, e2⟩⟩ := hLo_ex (A := A) (w := w) hA k (by omega)
    simp only [hLoTo, hHiTo]
    refine ⟨?_, ?_⟩
    · by_cases h : hLoTo A w k ≤ G (A.getD k []) w
      · exact ⟨i, hi, by omega⟩
      · exact ⟨k, by omega, by omega⟩
    · by_cases h : G (A.getD k []) (10 + w) ≤ hHiTo A w k
      · exact ⟨j, hj, by omega⟩
      · exact ⟨k, by omega, by omega⟩
theorem gives_in {s : Sp} (he : toldE s 0 = 0) {k : Nat} (hk : k < s.weeks.toNat) : 0 ≤ givesLo s k ∧ givesLo s k ≤ givesHi s k ∧ givesHi s k ≤ s.most := by
  obtain ⟨e1, e2⟩ := gives_at he hk
  have hA : 0 < (toldA s 0).length := by rw [told_lens]; exact toldL_pos he
  obtain ⟨i, hi, h1⟩ := (hLo_ex (w := k) hA (toldA s 0).length (Nat.le_refl _)).1
  obtain ⟨j, hj, h2⟩ := (hLo_ex (w := k) hA (toldA s 0).length (Nat.le_refl _)).2
  have h3 := (hLo_le (A := toldA s 0) (w := k) (toldA s 0).length).1 j hj
  have a := toldA_nonneg he hi hk
  have b := toldA_nonneg he hj hk
  rw [e1, e2, hLo, hHi]
  omega
end Go.S

/- Weeks, truths, water of a supply. Nothing of Go stands here. -/
namespace Go.T
open Go.S
theorem longTo_le {u : Su} : ∀ {k : Nat}, longTo u k ≤ 10 ∧ ∀ i, i < k → longTo u k ≤ (u.founts.getD i default).sp.weeks
  | 0 => ⟨Int.le_refl _, fun i hi => by omega⟩
  | k + 1 => by
    obtain ⟨h1, h2⟩ := longTo_le (u := u) (k := k)
    refine ⟨by simp only [longTo]; omega, fun i hi => ?_⟩
    simp only [longTo]
    by_cases e : i = k
    · subst e; omega
    · have := h2 i (by omega); omega
theorem longTo_ex {u : Su} : ∀ {k : Nat}, longTo u k = 10 ∨ ∃ i, i < k ∧ longTo u k = (u.founts.getD i default).sp.weeks
  | 0 => .inl rfl
  | k + 1 => by
    simp only [longTo]
    by_cases h : longTo u k ≤ (u.founts.getD k default).sp.weeks
    · rw [Int.min_eq_left h]
      exact (longTo_ex (u := u) (k := k)).imp id fun ⟨i, hi, e⟩ => ⟨i, by omega, e⟩
    · exact .inr ⟨k, by omega, by omega⟩
theorem SuP.spring {u : Su} (h : SuP u) {i : Nat} (hi : i < u.founts.length) : SpP (u.founts.getD i default).sp := (h.2.1 i hi).2
theorem SuP.long {u : Su} (h : SuP u) : 1 ≤ long u ∧ long u ≤ 10 := by
  refine ⟨?_, longTo_le.1⟩
  rcases longTo_ex (u := u) (k := u.founts.length) with e | ⟨i, hi, e⟩
  · unfold Go.T.long; omega
  · have := (h.spring hi).1; unfold HeadP at this; unfold Go.T.long; omega
abbrev wkF (u : Su) : Nat → Int := fun i => (u.founts.getD i default).sp.weeks
theorem SuP.first {u : Su} (h : SuP u) : wkF u (amin (wkF u) (u.founts.length - 1)) = Go.T.long u := by
  have hn := h.1.1
  have h1 := amin_le (wkF u) (u.founts.length - 1)
  have h2 := amin_min (wkF u) (u.founts.length - 1)
  have h3 := (longTo_le (u := u) (k := u.founts.length)).2 _ (show amin (wkF u) (u.founts.length - 1) < u.founts.length by omega)
  have h4 : wkF u (amin (wkF u) (u.founts.length - 1)) ≤ 10 := by
    have := (h.spring (show amin (wkF u) (u.founts.length - 1) < u.founts.length by omega)).1; unfold HeadP at this; simp only [wkF]; omega
  unfold Go.T.long
  rcases longTo_ex (u := u) (k := u.founts.length) with e | ⟨i, hi, e⟩
  · simp only [wkF] at *; omega
  · have := h2 i (by omega); simp only [wkF] at *; omega
theorem hasF_pos {u : Su} (h : FountsP u) {id : Int} (hf : HasF u id) : 1 ≤ id := by
  obtain ⟨x, hx, rfl⟩ := hf
  obtain ⟨k, hk, rfl⟩ := List.getElem_of_mem hx
  have h1 := (h k hk).1.1
  have h2 := lastF_pos h k (by omega)
  rw [List.getD_eq_getElem?_getD, List.getElem?_eq_getElem hk] at h1
  simp only [Option.getD_some] at h1
  omega
theorem lastD_at {l : List Int} {j : Nat} (h0 : 0 < j) : lastD l j = l.getD (j - 1) 0 := by
  cases j with
  | zero => omega
  | succ j => rfl
theorem drP_of {u : Su} {l : List Int} (h : FountsP u) (hl : ∀ i, i < l.length → HasF u (l.getD i 0) ∧ (0 < i → l.getD (i - 1) 0 < l.getD i 0)) : DrP u l := by
  intro i hi
  obtain ⟨h1, h2⟩ := hl i hi
  refine ⟨?_, h1⟩
  cases i with
  | zero => have := hasF_pos h h1; simp only [lastD]; omega
  | succ i => exact h2 (by omega)
/-- A supply has a truth. -/
def TrueS (u : Su) : Prop := ∀ i, i < u.founts.length → TrueP (u.founts.getD i default).sp
instance (u : Su) : Decidable (TrueS u) := by unfold TrueS; infer_instance
/-- What the fountains give. -/
def waterL (u : Su) (week : Int) (best : Bool) : List Int := u.founts.map fun x => if best then givesHi x.sp week else givesLo x.sp week
theorem waterL_len (u : Su) (week : Int) (best : Bool) : (waterL u week best).length = u.founts.length := by simp [waterL]
theorem waterL_at {u : Su} {week : Int} {best : Bool} {k : Nat} (hk : k < u.founts.length) : (waterL u week best).getD k 0 = if best then givesHi (u.founts.getD k default).sp week else givesLo (u.founts.getD k default).sp week := by
  simp [waterL, List.getD_eq_getElem?_getD, hk]
theorem told_at {u : Su} (h : SuP u) {week : Int} (hw : Wi week 0 (Go.T.long u - 1)) {k : Nat} (hk : k < u.founts.length) :
    toldE (u.founts.getD k default).sp week = if TrueP (u.founts.getD k default).sp then 0 else 8 := by
  have h1 := h.spring hk
  have h2 := (longTo_le (u := u) (k := u.founts.length)).2 k hk
  have h3 : Wi week 0 ((u.founts.getD k default).sp.weeks - 1) := by unfold Go.T.long at hw; exact ⟨hw.1, by omega⟩
  by_cases ht : TrueP (u.founts.getD k default).sp
  · rw [if_pos ht]; exact toldE_ok h1 h3 ht
  · rw [if_neg ht]; exact toldE_none h1 h3 (Decidable.not_not.1 ht)
theorem toldE0 {s : Sp} {week : Int} (h : toldE s week = 0) : toldE s 0 = 0 := by
  obtain ⟨h1, h2, h3⟩ := toldE_valid h
  exact toldE_ok h1 (by have := h1.1; unfold HeadP at this; exact ⟨by omega, by omega⟩) h3
/-- What is given is from 0 to 100. -/
theorem water_in {u : Su} (h : SuP u) (ht : TrueS u) {week : Int} (hw : Wi week 0 (Go.T.long u - 1)) (best : Bool) (k : Nat) : 0 ≤ (waterL u week best).getD k 0 ∧ (waterL u week best).getD k 0 ≤ 100 := by
  by_cases hk : k < u.founts.length
  · rw [waterL_at hk]
    have e := told_at h hw hk
    rw [if_pos (ht k hk)] at e
    obtain ⟨h1, h2, _⟩ := toldE_valid e
    have h3 := gives_in (toldE0 e) (k := week.toNat) (by omega)
    have h4 := h1.1; unfold HeadP at h4
    rw [show ((week.toNat : Nat) : Int) = week by omega] at h3
    split <;> omega
  · rw [List.getD_eq_getElem?_getD, List.getElem?_eq_none (by rw [waterL_len]; omega)]; simp
/-- Water is asked by index alone. -/
theorem thr_congr {u : Su} {b : Nat} {w w' : List Int} (h : ∀ k, w.getD k 0 = w'.getD k 0) : thr u b w = thr u b w' := by
  unfold thr
  generalize u.founts.length = n
  induction n with
  | zero => rfl
  | succ n ih => simp only [thrTo]; rw [ih, h n]
theorem CanP.congr {u : Su} {w w' l : List Int} (h : ∀ k, w.getD k 0 = w'.getD k 0) : CanP u w l ↔ CanP u w' l := by
  unfold CanP; constructor
  · intro hc b hb; rw [← thr_congr h]; exact hc b hb
  · intro hc b hb; rw [thr_congr h]; exact hc b hb
/-- So much water as there can be fountains. -/
def pad4 (l : List Int) : List Int := l ++ List.replicate (4 - l.length) 0
theorem pad4_len {l : List Int} (h : l.length ≤ 4) : (pad4 l).length = 4 := by simp [pad4]; omega
theorem pad4_at (l : List Int) (k : Nat) : (pad4 l).getD k 0 = l.getD k 0 := by
  unfold pad4
  rw [List.getD_eq_getElem?_getD, List.getD_eq_getElem?_getD]
  by_cases h : k < l.length
  · rw [List.getElem?_append_left h]
  · rw [List.getElem?_append_right (by omega), List.getElem?_eq_none (l := l) (by omega), List.getElem?_replicate]
    split <;> rfl
/-- The first k of them, the rest 0. -/
def padTo (l : List Int) (k : Nat) : List Int := l.take k ++ List.replicate (4 - k) 0
theorem padTo_len {l : List Int} {k : Nat} (hk : k ≤ l.length) (h : l.length ≤ 4) : (padTo l k).length = 4 := by simp [padTo]; omega
theorem take_snocI {l : List Int} {k : Nat} (h : k < l.length) : l.take (k + 1) = l.take k ++ [l.getD k 0] := by
  rw [List.take_add_one, List.getElem?_eq_getElem h, List.getD_eq_getElem?_getD, List.getElem?_eq_getElem h]; simp
theorem padTo_set {l : List Int} {k : Nat} (hk : k < l.length) (h : l.length ≤ 4) : (padTo l k).set k (l.getD k 0) = padTo l (k + 1) := by
  unfold padTo
  have hl : (l.take k).length = k := by simp; omega
  rw [List.set_append_right _ _ (by omega), hl, Nat.sub_self]
  have e : 4 - k = (4 - (k + 1)) + 1 := by omega
  rw [e, List.replicate_succ, List.set_cons_zero, take_snocI hk, List.append_assoc]; rfl
theorem padTo_all (l : List Int) : padTo l l.length = pad4 l := by simp [padTo, pad4]
theorem padTo_all_w (u : Su) (week : Int) (best : Bool) : padTo (waterL u week best) u.founts.length = pad4 (waterL u week best) := by
  have := padTo_all (waterL u week best); rwa [waterL_len] at this
theorem needs_len (u : Su) (best : Bool) : (needs u best).length = u.streets.length := by simp [needs]
theorem needs_at {u : Su} {best : Bool} {k : Nat} (hk : k < u.streets.length) : (needs u best).getD k 0 = if best then (u.streets.getD k default).n0 else (u.streets.getD k default).n1 := by
  simp [needs, List.getD_eq_getElem?_getD, hk]
theorem needs_in {u : Su} (h : SuP u) (best : Bool) (k : Nat) : 0 ≤ (needs u best).getD k 0 ∧ (needs u best).getD k 0 ≤ 100 := by
  by_cases hk : k < u.streets.length
  · rw [needs_at hk]
    have := (h.2.2 k hk).2.1
    split <;> omega
  · rw [List.getD_eq_getElem?_getD, List.getElem?_eq_none (by rw [needs_len]; omega)]; simp
theorem leasts_len (u : Su) : (leasts u).length = u.streets.length := by simp [leasts]
theorem leasts_at {u : Su} {k : Nat} (hk : k < u.streets.length) : (leasts u).getD k 0 = (u.streets.getD k default).least := by
  simp [leasts, List.getD_eq_getElem?_getD, hk]
theorem leasts_in {u : Su} (h : SuP u) (k : Nat) : 0 ≤ (leasts u).getD k 0 ∧ (leasts u).getD k 0 ≤ 100 := by
  by_cases hk : k < u.streets.length
  · rw [leasts_at hk]
    have h1 := (h.2.2 k hk).2.1
    have h2 := (h.2.2 k hk).2.2.1
    omega
  · rw [List.getD_eq_getElem?_getD, List.getElem?_eq_none (by rw [leasts_len]; omega)]; simp
/-- The errors of a supply, of a week, of what else is asked, and that there is no truth. -/
def askT (u : Su) (week : Int) (p : Prop) [Decidable p] (e : Int) : Int := if ¬SuP u then 90 else if ¬Wi week 0 (Go.T.long u - 1) then 91 else if ¬p then e else if TrueS u then 0 else 8
theorem askT_ok {u : Su} {week : Int} {p : Prop} [Decidable p] {e : Int} (he : ¬p → e ≠ 0) (h : askT u week p e = 0) : SuP u ∧ Wi week 0 (Go.T.long u - 1) ∧ p ∧ TrueS u := by
  unfold askT at h
  by_cases h1 : SuP u
  · rw [if_neg (Classical.not_not.2 h1)] at h
    by_cases h2 : Wi week 0 (Go.T.long u - 1)
    · rw [if_neg (Classical.not_not.2 h2)] at h
      by_cases h3 : p
      · rw [if_neg (Classical.not_not.2 h3)] at h
        by_cases h4 : TrueS u
        · exact ⟨h1, h2, h3, h4⟩
        · rw [if_neg h4] at h; omega
      · rw [if_pos h3] at h; exact absurd h (he h3)
    · rw [if_pos h2] at h; omega
  · rw [if_pos h1] at h; omega
end Go.T

/- A supply at work in memory; what is handed back of it. -/
namespace Go.T
open Go Go.X Go.S Go.RowKit
/-- A supply at work: its two slices, the water, what is needed. -/
def welC (a b : Value) (W : List Int) (nv : Value) : List Value := a :: b :: (ints W ++ [nv])
section
variable {a b nv : Value} {W : List Int}
theorem welC_len (hW : W.length = 4) : (welC a b W nv).length = 7 := by simp [welC, ints, hW]
theorem welC_one (ha : isOne a = true) (hb : isOne b = true) (hn : isOne nv = true) : (welC a b W nv).all isOne = true := by
  simp [welC, ints, ha, hb, hn]; intro x _; rfl
theorem welC_take (hW : W.length = 4) : takeAt (welC a b W nv) 0 7 = some (welC a b W nv) := takeAt_full (welC_len hW)
theorem welC_at {i off : Nat} (ho : off = 2 + i) (hi : i < W.length) : (welC a b W nv)[off]? = some (.int .i64 (W.getD i 0)) := by
  subst ho
  rw [show 2 + i = i + 1 + 1 by omega]
  simp only [welC, List.getElem?_cons_succ]
  rw [List.getElem?_append_left (by simpa [ints] using hi)]
  simp [ints, hi]
theorem welC_need (hW : W.length = 4) : (welC a b W nv)[6]? = some nv := by
  simp only [welC, List.getElem?_cons_succ]
  rw [List.getElem?_append_right (by simp [ints, hW])]
  simp [ints, hW]
theorem welC_put {i off : Nat} {x : Int} (ho : off = 2 + i) (hi : i < W.length) : putAt (welC a b W nv) off [.int .i64 x] = some (welC a b (W.set i x) nv) := by
  rw [putAt_one _ (by subst ho; simp [welC, ints]; omega)]
  subst ho
  rw [show 2 + i = i + 1 + 1 by omega]
  simp only [welC, List.set_cons_succ, Option.some.injEq]
  rw [List.set_append_left _ _ (by simpa [ints] using hi)]
  simp [ints, List.map_set]
theorem welC_putN {u : Value} (hW : W.length = 4) : putAt (welC a b W nv) 6 [u] = some (welC a b W u) := by
  rw [putAt_one _ (by simp [welC, ints, hW])]
  simp only [welC, List.set_cons_succ, Option.some.injEq]
  rw [List.set_append_right _ _ (by simp [ints, hW])]
  simp [ints, hW]
end
abbrev suW (u : Su) (fo so : Option Addr) (fc sc : Nat) (W : List Int) (nv : Value) : List Value := welC (.slice fo u.founts.length fc) (.slice so u.streets.length sc) W nv
/-- A supply at work, or an error. -/
structure DrR (u : Su) (fo so : Option Addr) (fc sc : Nat) (week : Int) (best : Bool) (e : Int) (v : Value) (own : X.Own) : Prop where
  ex : ∃ (C : List Value) (r : Sl) (N : List Int), C.length = 7 ∧ C.all isOne = true ∧ r.Ok N.length 1 (ints N) ∧ v = .tuple ⟨[.agg ⟨C⟩, .int .i64 e]⟩ ∧ own = [r.ent 3 (ints N)] ∧
    (e = 0 → C = suW u fo so fc sc (pad4 (waterL u week best)) (r.val N.length) ∧ N = needs u best)
theorem DrR.errs {u : Su} {fo so : Option Addr} {fc sc : Nat} {week : Int} {best : Bool} {e e' : Int} {C : List Value} (hC : C.length = 7) (h1 : C.all isOne = true) (he : e' = e) (h0 : e' ≠ 0) :
    DrR u fo so fc sc week best e (.tuple ⟨[.agg ⟨C⟩, .int .i64 e']⟩) [Sl.nil.ent 3 []] := by
  subst he
  exact ⟨C, Sl.nil, [], hC, h1, Sl.Ok.none 1, rfl, rfl, fun h => absurd h h0⟩
theorem onesSrc {w : World} {l : List Int} {ao : Option Addr} (h : RowsAt w ao 1 (ones l)) (own : X.Own) : Src w own ao l.length (ints l) := by
  have := h.src (by omega) (by intro q hq; obtain ⟨x, _, rfl⟩ := List.mem_map.1 hq; rfl) own
  rwa [ones_flatten, show (ones l).length = l.length from by simp [ones]] at this
/-- A list of numbers handed back. -/
structure IsI (l : List Int) (v : Value) (own : X.Own) : Prop where
  ex : ∃ r : Sl, r.Ok l.length 1 (ints l) ∧ v = r.val l.length ∧ own = [r.ent 3 (ints l)]
end Go.T

/- The walks of the package town: weeks, supplies at work. -/
namespace Go.Proofs.YtolcicaclflagaaDoor
open Go.X Go.S Go.T Go.RowKit
theorem isNaN_any (a : Int) (w : World) :
    CallsR Tryd.prog 96 [.int .i64 a] w (fun v _ => v = .bool (decide (False))) := by
  refine CallsR.of_SX (n := 6) (rs := [.tmp 2]) Tryd.func96 rfl rfl rfl rfl ?_
  show SX _ _ _ ⟨[(0, .int .i64 a)], [], []⟩
  refine SX.seq ?_
  refine SX.region ?_
  refine SXL.assign rfl ?_
  refine SXL.nil ?_
  refine thenQ.normal ?_
  refine SX.seq ?_
  refine SX.region ?_
  refine SXL.move rfl ?_
  refine SXL.move rfl ?_
  refine SXL.neqI rfl rfl ?_
  refine SXL.assign rfl ?_
  refine SXL.nil ?_
  refine thenQ.normal ?_
  refine SX.ret ?_
  refine retQ.one (ResAt.tmp rfl) ?_
  exact congrArg Value.bool (decide_eq_decide.2 (by simp))
theorem compare_any (a b : Int) (w : World) :
    CallsR Tryd.prog 72 [.int .i64 a, .int .i64 b] w (fun v _ => v = .int .i64 (cmpV a b)) := by
  refine CallsR.of_SX (n := 20) (rs := [.tmp 4]) Tryd.func72 rfl rfl rfl rfl ?_
  show SX _ _ _ ⟨[(0, .int .i64 a), (1, .int .i64 b)], [], []⟩
  refine SX.seq ?_
  refine SX.region ?_
  refine SXL.assign rfl ?_
  refine SXL.nil ?_
  refine thenQ.normal ?_
  refine SX.seq ?_
  refine SX.region ?_
  refine SXL.move rfl ?_
  refine SXL.call1 (.bool (decide (False))) fn_96 rfl (fun w hI => isNaN_any _ _) ?_
  refine SXL.assign rfl ?_
  refine SXL.nil ?_
  refine thenQ.normal ?_
  refine SX.seq ?_
  refine SX.region ?_
  refine SXL.move rfl ?_
  refine SXL.call1 (.bool (decide (False))) fn_96 rfl (fun w hI => isNaN_any _ _) ?_
  refine SXL.assign rfl ?_
  refine SXL.nil ?_
  refine thenQ.normal ?_
  refine SX.seq ?_
  refine SX.seq ?_
  refine SX.region ?_
  refine SXL.move rfl ?_
  refine SXL.nil ?_
  refine thenQ.normal ?_
  refine SX.condP rfl (fun c11 => ?_) (fun c11 => ?_)
  · exfalso; exact c11
  refine SX.skip ?_
  refine thenQ.normal ?_
  refine SX.seq ?_
  refine SX.seq ?_
  refine SX.region ?_
  refine SXL.move rfl ?_
  refine SXL.nil ?_
  refine thenQ.normal ?_
  refine SX.condP rfl (fun c13 => ?_) (fun c13 => ?_)
  · exfalso; exact c13
  refine SX.skip ?_
  refine thenQ.normal ?_
  refine SX.seq ?_
  refine SX.seq ?_
  refine SX.region ?_
  refine SXL.move rfl ?_
  refine SXL.move rfl ?_
  refine SXL.lss rfl rfl ?_
  refine SXL.nil ?_
  refine thenQ.normal ?_
  refine SX.condP rfl (fun c16 => ?_) (fun c16 => ?_)
  · refine SX.seq ?_
    refine SX.region ?_
    refine SXL.assign rfl ?_
    refine SXL.nil ?_
    refine thenQ.normal ?_
    refine SX.ret ?_
    refine thenQ.ret ?_
    refine retQ.one (ResAt.tmp rfl) ?_
    rw [cmpV, if_pos c16]
  · refine SX.skip ?_
    refine thenQ.normal ?_
    refine SX.seq ?_
    refine SX.seq ?_
    refine SX.region ?_
    refine SXL.move rfl ?_
    refine SXL.move rfl ?_
    refine SXL.gtr rfl rfl ?_
    refine SXL.nil ?_
    refine thenQ.normal ?_
    refine SX.condP rfl (fun c19 => ?_) (fun c19 => ?_)
    · refine SX.seq ?_
      refine SX.region ?_
      refine SXL.assign rfl ?_
      refine SXL.nil ?_
      refine thenQ.normal ?_
      refine SX.ret ?_
      refine thenQ.ret ?_
      refine retQ.one (ResAt.tmp rfl) ?_
      rw [cmpV, if_neg c16, if_pos c19]
    · refine SX.skip ?_
      refine thenQ.normal ?_
      refine SX.seq ?_
      refine SX.region ?_
      refine SXL.assign rfl ?_
      refine SXL.nil ?_
      refine thenQ.normal ?_
      refine SX.ret ?_
      refine retQ.one (ResAt.tmp rfl) ?_
      rw [cmpV, if_neg c16, if_neg c19]
theorem weeks1_any (x y : Fo) (a b : FA) (w : World) :
    CallsR Tryd.prog 86 [.agg ⟨foC x a⟩, .agg ⟨foC y b⟩] w (fun v _ => v = .int .i64 (cmpV x.sp.weeks y.sp.weeks)) := by
  refine CallsR.of_SX (n := 12) (rs := [.tmp 4]) Tryd.func86 rfl rfl rfl rfl ?_
  show SX _ _ _ ⟨[(0, .agg ⟨foC x a⟩), (1, .agg ⟨foC y b⟩)], [], []⟩
  refine SX.seq ?_
  refine SX.region ?_
  refine SXL.box rfl rfl ?_; intro b0
  refine SXL.box rfl rfl ?_; intro b1
  refine SXL.assign rfl ?_
  refine SXL.nil ?_
  refine thenQ.normal ?_
  refine SX.seq ?_
  refine SX.region ?_
  refine SXL.fieldAddr fp_70_1 rfl ?_
  refine SXL.fieldAddr fp_68_0 rfl ?_
  refine SXL.load1o 0 sh_3 rfl rfl rfl ?_
  refine SXL.fieldAddr fp_70_1 rfl ?_
  refine SXL.fieldAddr fp_68_0 rfl ?_
  refine SXL.load1o 1 sh_3 rfl rfl rfl ?_
  refine SXL.call1 (.int .i64 (cmpV x.sp.weeks y.sp.weeks)) fn_72 rfl (fun w hI => compare_any _ _ _) ?_
  refine SXL.assign rfl ?_
  refine SXL.nil ?_
  refine thenQ.normal ?_
  refine SX.ret ?_
  refine retQ.one (ResAt.tmp rfl) ?_
  rfl
theorem minFounts (u : Su) (fo : Option Addr) (fc : Nat) (fa : Nat → FA) (hl : 0 < u.founts.length) (hl2 : u.founts.length ≤ 1000) (w : World) (h : RowsAt w fo 10 (foRows u fa)) :
    CallsR Tryd.prog 100 [.slice fo u.founts.length fc, .func (.func 86) ⟨[]⟩ ⟨[]⟩] w (fun v _ => v = .agg ⟨foC (u.founts.getD (amin (wkF u) (u.founts.length - 1)) default) (fa (amin (wkF u) (u.founts.length - 1)))⟩) := by
  refine CallsR.of_SX (n := 33) (rs := [.cell 4 70]) Tryd.func100 rfl rfl rfl rfl ?_
  show SX _ _ _ ⟨[(0, .slice fo u.founts.length fc), (1, .func (.func 86) ⟨[]⟩ ⟨[]⟩)], [], []⟩
  refine SX.seq ?_
  refine SX.region ?_
  refine SXL.alloc zp_70 ?_; intro b0
  refine SXL.nil ?_
  refine thenQ.normal ?_
  refine SX.seq ?_
  refine SX.seq ?_
  refine SX.region ?_
  refine SXL.move rfl ?_
  refine SXL.len is_22 rfl ?_
  refine SXL.lss rfl rfl ?_
  refine SXL.nil ?_
  refine thenQ.normal ?_
  refine SX.condP rfl (fun c9 => ?_) (fun c9 => ?_)
  · exfalso; omega
  refine SX.skip ?_
  refine thenQ.normal ?_
  refine SX.seq ?_
  obtain ⟨ba, oa, ha0, hm0⟩ := h.get (foRows_get (i := 0) hl)
  refine SX.region ?_
  refine SXL.move rfl ?_
  refine SXL.indexR el_22 rfl rfl ha0 (by omega) ?_
  refine SXL.loadN sh_70 rfl (hm0 _) rfl ?_
  refine SXL.alloc zp_70 ?_; intro b1
  refine SXL.store 1 sz_70 rfl rfl rfl rfl rfl rfl ?_
  refine SXL.nil ?_
  refine thenQ.normal ?_
  refine SX.seq ?_
  refine SX.seq ?_
  refine SX.region ?_
  refine SXL.assign rfl ?_
  refine SXL.nil ?_
  refine thenQ.normal ?_
  refine SX.block ?_
  refine SX.loopW (α := Nat × Nat) [0, 1, 4, 5] rfl (fun ⟨k, j⟩ => [(6, .int .i64 ((k : Int)))]) (fun ⟨k, j⟩ => [(b0, .cells ⟨[.int .i64 0, .int .i64 0, .int .i64 0, .int .i64 0, .int .i64 0, .int .i64 0, .int .i64 0, .int .i64 0, .slice none 0 0, .slice none 0 0]⟩ 70 (0, 0)), (b1, .cells ⟨foC (u.founts.getD j default) (fa j)⟩ 70 (0, 0))]) (fun ⟨k, j⟩ => []) (fun ⟨k, j⟩ => 1 ≤ k ∧ k ≤ u.founts.length ∧ j = amin (wkF u) (k - 1)) (fun ⟨k, j⟩ => u.founts.length - k) (1, 0) ⟨Nat.le_refl _, by omega, rfl⟩ ⟨rfl, trivial⟩ rfl ?_
  rintro ⟨k, j⟩ ⟨hk1, hk, hj⟩
  refine SX.seq ?_
  refine SX.seq ?_
  refine SX.region ?_
  refine SXL.move rfl ?_
  refine SXL.move rfl ?_
  refine SXL.len is_22 rfl ?_
  refine SXL.lss rfl rfl ?_
  refine SXL.nil ?_
  refine thenQ.normal ?_
  refine SX.condP rfl (fun c17 => ?_) (fun c17 => ?_)
  · refine SX.skip ?_
    refine thenQ.normal ?_
    refine SX.seq ?_
    refine SX.block ?_
    refine SX.seq ?_
    obtain ⟨b, o, ha, hm⟩ := h.get (foRows_get (i := k) (by omega))
    refine SX.draw 8 (by kernel_rfl) (by kernel_rfl) {} ?_
    refine SXA.take 0 8 rfl (by kernel_rfl) rfl ?_
    refine SXL.move rfl ?_
    refine SXL.move rfl ?_
    refine SXL.move rfl ?_
    refine SXL.indexR el_22 rfl rfl ha (by omega) ?_
    refine SXL.loadN sh_70 rfl (hm _) rfl ?_
    refine SXL.loadNo 1 sh_70 rfl rfl rfl ?_
    refine SXL.call1V (.int .i64 (cmpV (u.founts.getD k default).sp.weeks (u.founts.getD j default).sp.weeks)) fn_86 rfl rfl (fun w hI => weeks1_any (u.founts.getD k default) (u.founts.getD j default) (fa k) (fa j) w) ?_
    refine SXL.lss rfl rfl ?_
    refine SXL.nil ⟨rfl, rfl, rfl, ?_⟩
    refine SXA.done (by kernel_rfl) ?_
    refine SXL.nil ?_
    refine thenQ.normal ?_
    refine SX.condP rfl (fun c27 => ?_) (fun c27 => ?_)
    · refine SX.region ?_
      refine SXL.move rfl ?_
      refine SXL.move rfl ?_
      refine SXL.indexR el_22 rfl rfl ha (by omega) ?_
      refine SXL.loadN sh_70 rfl (hm _) rfl ?_
      refine SXL.store 1 sz_70 rfl rfl rfl rfl rfl rfl ?_
      refine SXL.nil ?_
      refine blockQ.normal ?_
      refine thenQ.normal ?_
      refine SX.region ?_
      refine SXL.move rfl ?_
      refine SXL.add rfl rfl (by omega) ?_
      refine SXL.assign rfl ?_
      refine SXL.nil ?_
      refine thenQ.normal ?_
      refine ⟨(k + 1, _), MeetsW.mkP _ ⟨rfl, trivial⟩ ⟨rfl, rfl, rfl, rfl, trivial⟩ rfl, ⟨by omega, by omega, by
        first
        | exact (show k = amin (wkF u) k by rw [amin_at _ hk1, ← hj, if_pos (cmpV_neg.1 c27)])
        | exact (show j = amin (wkF u) k by rw [amin_at _ hk1, ← hj, if_neg (fun h2 => c27 (cmpV_neg.2 h2))])⟩, (show u.founts.length - (k + 1) < u.founts.length - k by omega)⟩
    · refine SX.skip ?_
      refine blockQ.normal ?_
      refine thenQ.normal ?_
      refine SX.region ?_
      refine SXL.move rfl ?_
      refine SXL.add rfl rfl (by omega) ?_
      refine SXL.assign rfl ?_
      refine SXL.nil ?_
      refine thenQ.normal ?_
      refine ⟨(k + 1, _), MeetsW.mkP _ ⟨rfl, trivial⟩ ⟨rfl, rfl, rfl, rfl, trivial⟩ rfl, ⟨by omega, by omega, by
        first
        | exact (show k = amin (wkF u) k by rw [amin_at _ hk1, ← hj, if_pos (cmpV_neg.1 c27)])
        | exact (show j = amin (wkF u) k by rw [amin_at _ hk1, ← hj, if_neg (fun h2 => c27 (cmpV_neg.2 h2))])⟩, (show u.founts.length - (k + 1) < u.founts.length - k by omega)⟩
  · refine SX.exit ?_
    refine thenQ.exit ?_
    refine thenQ.exit ?_
    refine blockQ.exit ?_
    refine thenQ.normal ?_
    refine SX.seq ?_
    obtain rfl : k = u.founts.length := by omega
    subst hj
    refine SX.region ?_
    refine SXL.loadNo 1 sh_70 rfl rfl rfl ?_
    refine SXL.store 0 sz_70 rfl rfl rfl rfl rfl rfl ?_
    refine SXL.nil ?_
    refine thenQ.normal ?_
    refine SX.ret ?_
    refine retQ.dead [] rfl ?_
    refine retQ.one (ResAt.cellNo 0 sh_70 rfl rfl rfl) ?_
    rfl
theorem firstFounts (u : Su) (fo : Option Addr) (fc : Nat) (fa : Nat → FA) (hl : 0 < u.founts.length) (hl2 : u.founts.length ≤ 1000) (w : World) (h : RowsAt w fo 10 (foRows u fa)) :
    CallsR Tryd.prog 85 [.slice fo u.founts.length fc, .func (.func 86) ⟨[]⟩ ⟨[]⟩] w (fun v _ => v = .agg ⟨foC (u.founts.getD (amin (wkF u) (u.founts.length - 1)) default) (fa (amin (wkF u) (u.founts.length - 1)))⟩) := by
  refine CallsR.of_SX (n := 8) (rs := [.cell 4 70]) Tryd.func85 rfl rfl rfl rfl ?_
  show SX _ _ _ ⟨[(0, .slice fo u.founts.length fc), (1, .func (.func 86) ⟨[]⟩ ⟨[]⟩)], [], []⟩
  refine SX.seq ?_
  refine SX.region ?_
  refine SXL.alloc zp_70 ?_; intro b0
  refine SXL.nil ?_
  refine thenQ.normal ?_
  refine SX.seq ?_
  refine SX.region ?_
  refine SXL.move rfl ?_
  refine SXL.move rfl ?_
  refine SXL.call1 (.agg ⟨foC (u.founts.getD (amin (wkF u) (u.founts.length - 1)) default) (fa (amin (wkF u) (u.founts.length - 1)))⟩) fn_100 rfl (fun w hI => minFounts u fo fc fa hl hl2 _ (h.inv hI)) ?_
  refine SXL.store 0 sz_70 rfl rfl rfl rfl rfl rfl ?_
  refine SXL.nil ?_
  refine thenQ.normal ?_
  refine SX.ret ?_
  refine retQ.dead [] rfl ?_
  refine retQ.one (ResAt.cellNo 0 sh_70 rfl rfl rfl) ?_
  rfl
theorem tweeks_any (u : Su) (fo so : Option Addr) (fc sc : Nat) (fa : Nat → FA) (sa : Nat → DA) (hv : SuP u) (w : World) (hs : SuAt w u fo so fa sa) :
    CallsR Tryd.prog 39 [.agg ⟨[.slice fo u.founts.length fc, .slice so u.streets.length sc]⟩] w (fun v _ => v = .int .i64 (long u)) := by
  have hz := hv.1.1
  refine CallsR.of_SX (n := 10) (rs := [.tmp 2]) Tryd.func39 rfl rfl rfl rfl ?_
  show SX _ _ _ ⟨[(0, .agg ⟨[.slice fo u.founts.length fc, .slice so u.streets.length sc]⟩)], [], []⟩
  refine SX.seq ?_
  refine SX.region ?_
  refine SXL.box rfl rfl ?_; intro b0
  refine SXL.assign rfl ?_
  refine SXL.nil ?_
  refine thenQ.normal ?_
  refine SX.seq ?_
  refine SX.region ?_
  refine SXL.fieldAddr fp_25_0 rfl ?_
  refine SXL.load1o 0 sh_22 rfl rfl rfl ?_
  refine SXL.call1 (.agg ⟨foC (u.founts.getD (amin (wkF u) (u.founts.length - 1)) default) (fa (amin (wkF u) (u.founts.length - 1)))⟩) fn_85 rfl (fun w hI => firstFounts u fo fc fa (by omega) (by omega) _ (hs.founts.inv hI)) ?_
  refine SXL.alloc zp_70 ?_; intro b1
  refine SXL.store 1 sz_70 rfl rfl rfl rfl rfl rfl ?_
  refine SXL.nil ?_
  refine thenQ.normal ?_
  refine SX.seq ?_
  refine SX.region ?_
  refine SXL.fieldAddr fp_70_1 rfl ?_
  refine SXL.fieldAddr fp_68_0 rfl ?_
  refine SXL.load1o 1 sh_3 rfl rfl rfl ?_
  refine SXL.assign rfl ?_
  refine SXL.nil ?_
  refine thenQ.normal ?_
  refine SX.ret ?_
  refine retQ.one (ResAt.tmp rfl) ?_
  exact congrArg (Value.int .i64) hv.first
set_option maxHeartbeats 1000000 in
theorem tdrawn_any (u : Su) (fo so : Option Addr) (fc sc : Nat) (fa : Nat → FA) (sa : Nat → DA) (week : Int) (best : Bool) (hl : LitP u) (hv : SuP u) (hw : Wi week 0 (long u - 1)) (w : World) (hg : Gt w) (hs : SuAt w u fo so fa sa) :
    CallsR Tryd.prog 88 [.agg ⟨[.slice fo u.founts.length fc, .slice so u.streets.length sc]⟩, .int .i64 week, .bool best] w (DrR u fo so fc sc week best (if TrueS u then 0 else 8)) := by
  have hL0 := hl.1
  have hL1 := hl.2.1
  have hL2 := hl.2.2
  have hz := hv.1
  unfold SizeP at hz
  have hWl : (waterL u week best).length ≤ 4 := by rw [waterL_len]; omega
  have hP := pad4_len hWl
  have hNl := needs_len u best
  refine CallsR.of_SX (n := 71) (rs := [.cell 6 78, .tmp 7]) Tryd.func88 rfl rfl rfl rfl ?_
  show SX _ _ _ ⟨[(0, .agg ⟨[.slice fo u.founts.length fc, .slice so u.streets.length sc]⟩), (1, .int .i64 week), (2, .bool best)], [], []⟩
  refine SX.seq ?_
  refine SX.region ?_
  refine SXL.box rfl rfl ?_; intro b0
  refine SXL.alloc zp_78 ?_; intro b1
  refine SXL.assign rfl ?_
  refine SXL.nil ?_
  refine thenQ.normal ?_
  refine SX.seq ?_
  refine SX.region ?_
  refine SXL.loadNo 0 sh_25 rfl rfl rfl ?_
  refine SXL.buildS pl_78 zp_78 rfl rfl ?_
  refine SXL.alloc zp_78 ?_; intro b2
  refine SXL.store 2 sz_78 rfl rfl rfl rfl rfl rfl ?_
  refine SXL.nil ?_
  refine thenQ.normal ?_
  refine SX.seq ?_
  refine SX.seq ?_
  refine SX.region ?_
  refine SXL.fieldAddr fp_25_0 rfl ?_
  refine SXL.load1o 0 sh_22 rfl rfl rfl ?_
  refine SXL.len is_22 rfl ?_
  refine SXL.move rfl ?_
  refine SXL.nil ?_
  refine thenQ.normal ?_
  refine SX.block ?_
  refine SX.loopW (α := Nat × List Int) [1, 2, 3, 6, 7, 8, 19, 20] rfl (fun ⟨k, W⟩ => [(21, .int .i64 ((k : Int)))]) (fun ⟨k, W⟩ => [(b0, .cells ⟨[.slice fo u.founts.length fc, .slice so u.streets.length sc]⟩ 25 (0, 0)), (b1, .cells ⟨[.slice none 0 0, .slice none 0 0, .int .i64 0, .int .i64 0, .int .i64 0, .int .i64 0, .slice none 0 0]⟩ 78 (0, 0)), (b2, .cells ⟨suW u fo so fc sc (W) (.slice none 0 0)⟩ 78 (0, 0))]) (fun ⟨k, W⟩ => []) (fun ⟨k, W⟩ => (k ≤ u.founts.length ∧ ∀ i, i < k → TrueP (u.founts.getD i default).sp) ∧ W = padTo (waterL u week best) k) (fun ⟨k, W⟩ => u.founts.length - k) (0, padTo (waterL u week best) 0) ⟨⟨Nat.zero_le _, fun _ h => absurd h (Nat.not_lt_zero _)⟩, rfl⟩ ⟨rfl, trivial⟩ rfl ?_
  rintro ⟨k, W⟩ ⟨⟨hk, hall⟩, rfl⟩
  refine SX.seq ?_
  refine SX.region ?_
  refine SXL.lss rfl rfl ?_
  refine SXL.nil ?_
  refine thenQ.normal ?_
  refine SX.seq ?_
  refine SX.condP rfl (fun c22 => ?_) (fun c22 => ?_)
  · refine SX.skip ?_
    refine thenQ.normal ?_
    refine SX.seq ?_
    refine SX.block ?_
    refine SX.seq ?_
    obtain ⟨b, o, ha, hm⟩ := hs.fount (i := k) (by omega)
    have hLk := hL1 k (by omega)
    have hT := told_at hv hw (k := k) (by omega)
    have hPk := padTo_len (l := waterL u week best) (k := k) (by rw [waterL_len]; omega) hWl
    refine SX.region ?_
    refine SXL.move rfl ?_
    refine SXL.indexR el_22 rfl rfl ha (by omega) ?_
    refine SXL.loadN sh_70 rfl (hm _) rfl ?_
    refine SXL.alloc zp_70 ?_; intro b3
    refine SXL.assign rfl ?_
    refine SXL.store 3 sz_70 rfl rfl rfl rfl rfl rfl ?_
    refine SXL.nil ?_
    refine thenQ.normal ?_
    refine SX.seq ?_
    refine SX.region ?_
    refine SXL.fieldAddr fp_70_1 rfl ?_
    refine SXL.loadNo 3 sh_68 rfl rfl rfl ?_
    refine SXL.move rfl ?_
    refine SXL.call1 (.tuple ⟨[.agg ⟨[.int .i64 ((givesLo ((u.founts.getD k default).sp) week)), .int .i64 ((givesHi ((u.founts.getD k default).sp) week))]⟩, .int .i64 (toldE ((u.founts.getD k default).sp) week)]⟩) fn_104 rfl (fun w hI => sgives_any ((u.founts.getD k default).sp) (fa k).bo (fa k).ro (fa k).bc (fa k).rc week (by omega) (by omega) w (hg.gl.inv hI) ((hs.springs k (by omega)).inv hI)) ?_
    refine SXL.move rfl ?_
    refine SXL.extract rfl rfl ?_
    refine SXL.extract rfl rfl ?_
    refine SXL.alloc zp_55 ?_; intro b4
    refine SXL.store 4 sz_55 rfl rfl rfl rfl rfl rfl ?_
    refine SXL.assign rfl ?_
    refine SXL.nil ?_
    refine thenQ.normal ?_
    refine SX.seq ?_
    refine SX.seq ?_
    refine SX.region ?_
    refine SXL.move rfl ?_
    refine SXL.neqI rfl rfl ?_
    refine SXL.nil ?_
    refine thenQ.normal ?_
    refine SX.condP rfl (fun c34 => ?_) (fun c34 => ?_)
    · refine SX.seq ?_
      refine SX.region ?_
      refine SXL.loadNo 2 sh_78 rfl rfl (welC_take hPk) ?_
      refine SXL.move rfl ?_
      refine SXL.store 1 sz_78 rfl rfl rfl rfl (welC_len hPk) (putAt_all _ _ (welC_len hPk)) ?_ (welC_one rfl rfl rfl)
      refine SXL.assign rfl ?_
      refine SXL.nil ?_
      refine thenQ.normal ?_
      refine SX.ret ?_
      refine thenQ.ret ?_
      refine blockQ.ret ?_
      refine thenQ.ret ?_
      refine thenQ.ret ?_
      refine blockQ.ret ?_
      refine thenQ.ret ?_
      refine retQ.dead [Sl.nil.ent 3 []] rfl ?_
      refine retQ.two (ResAt.cellNo 1 sh_78 rfl rfl (welC_take hPk)) (ResAt.tmp rfl) ?_
      have ht : ¬TrueP (u.founts.getD k default).sp := fun hx => c34 (by rw [hT, if_pos hx]); rw [if_neg (fun h => ht (h k (by omega)))]; rw [if_neg ht] at hT; exact DrR.errs (welC_len hPk) (welC_one rfl rfl rfl) hT (by omega)
    · refine SX.skip ?_
      refine thenQ.normal ?_
      refine SX.seq ?_
      refine SX.region ?_
      refine SXL.move rfl ?_
      refine SXL.fieldAddr fp_55_0 rfl ?_
      refine SXL.load1o 4 sh_3 rfl rfl rfl ?_
      refine SXL.fieldAddr fp_78_1 rfl ?_
      refine SXL.indexA el_76 rfl rfl (by omega) ?_
      refine SXL.store 2 sz_3 rfl rfl rfl rfl rfl (welC_put (i := k) (by simp) (by omega)) ?_
      refine SXL.nil ?_
      refine thenQ.normal ?_
      refine SX.seq ?_
      refine SX.region ?_
      refine SXL.move rfl ?_
      refine SXL.nil ?_
      refine thenQ.normal ?_
      refine SX.cond rfl (fun c42 => ?_) (fun c42 => ?_)
      · refine SX.region ?_
        refine SXL.move rfl ?_
        refine SXL.fieldAddr fp_55_1 rfl ?_
        refine SXL.load1o 4 sh_3 rfl rfl rfl ?_
        refine SXL.fieldAddr fp_78_1 rfl ?_
        refine SXL.indexA el_76 rfl rfl (by omega) ?_
        refine SXL.store 2 sz_3 rfl rfl rfl rfl rfl (welC_put (i := k) (by simp) (by simp; omega)) ?_
        refine SXL.nil ?_
        refine blockQ.normal ?_
        refine thenQ.normal ?_
        refine SX.region ?_
        refine SXL.add rfl rfl (by omega) ?_
        refine SXL.move rfl ?_
        refine SXL.nil ?_
        refine thenQ.normal ?_
        refine ⟨(k + 1, _), MeetsW.mkP _ ⟨rfl, trivial⟩ ⟨rfl, rfl, rfl, rfl, rfl, rfl, rfl, rfl, trivial⟩ rfl, ⟨?_, ?_⟩, (show u.founts.length - (k + 1) < u.founts.length - k by omega)⟩
        · refine ⟨by omega, fun i hi => ?_⟩
          by_cases e : i = k
          · subst e; exact Classical.byContradiction fun hx => by rw [if_neg hx] at hT; omega
          · exact hall i (by omega)
        · have e3 := padTo_set (l := waterL u week best) (k := k) (by rw [waterL_len]; omega) hWl
          rw [waterL_at (by omega)] at e3
          first
            | (rw [if_pos c42] at e3; rw [List.set_set]; exact e3)
            | (rw [if_neg (by rw [c42]; decide)] at e3; exact e3)
      · refine SX.skip ?_
        refine blockQ.normal ?_
        refine thenQ.normal ?_
        refine SX.region ?_
        refine SXL.add rfl rfl (by omega) ?_
        refine SXL.move rfl ?_
        refine SXL.nil ?_
        refine thenQ.normal ?_
        refine ⟨(k + 1, _), MeetsW.mkP _ ⟨rfl, trivial⟩ ⟨rfl, rfl, rfl, rfl, rfl, rfl, rfl, rfl, trivial⟩ rfl, ⟨?_, ?_⟩, (show u.founts.length - (k + 1) < u.founts.length - k by omega)⟩
        · refine ⟨by omega, fun i hi => ?_⟩
          by_cases e : i = k
          · subst e; exact Classical.byContradiction fun hx => by rw [if_neg hx] at hT; omega
          · exact hall i (by omega)
        · have e3 := padTo_set (l := waterL u week best) (k := k) (by rw [waterL_len]; omega) hWl
          rw [waterL_at (by omega)] at e3
          first
            | (rw [if_pos c42] at e3; rw [List.set_set]; exact e3)
            | (rw [if_neg (by rw [c42]; decide)] at e3; exact e3)
  · refine SX.exit ?_
    refine thenQ.exit ?_
    refine thenQ.exit ?_
    refine blockQ.exit ?_
    refine thenQ.normal ?_
    refine SX.seq ?_
    refine SX.seq ?_
    obtain rfl : k = u.founts.length := by omega
    have hts : TrueS u := fun i hi => hall i hi
    rw [padTo_all_w u week best]
    refine SX.pad (Sl.nil.ent 3 []) rfl ?_
    refine SX.region ?_
    refine SXL.fieldAddr fp_25_1 rfl ?_
    refine SXL.load1o 0 sh_23 rfl rfl rfl ?_
    refine SXL.len is_23 rfl ?_
    refine SXL.move rfl ?_
    refine SXL.nil ?_
    refine thenQ.normal ?_
    refine SX.block ?_
    refine SX.loopW (α := Nat × Sl × Nat × List Value) [2, 6, 7, 8, 50, 51] rfl (fun ⟨k, q, n, c⟩ => [(52, .int .i64 ((k : Int)))]) (fun ⟨k, q, n, c⟩ => [(b0, .cells ⟨[.slice fo u.founts.length fc, .slice so u.streets.length sc]⟩ 25 (0, 0)), (b1, .cells ⟨[.slice none 0 0, .slice none 0 0, .int .i64 0, .int .i64 0, .int .i64 0, .int .i64 0, .slice none 0 0]⟩ 78 (0, 0)), (b2, .cells ⟨suW u fo so fc sc (pad4 (waterL u week best)) (q.val n)⟩ 78 (0, 0)), q.ent 3 c]) (fun ⟨k, q, n, c⟩ => []) (fun ⟨k, q, n, c⟩ => k ≤ u.streets.length ∧ q.Ok n 1 c ∧ n = k ∧ c = ints ((needs u best).take k)) (fun ⟨k, q, n, c⟩ => u.streets.length - k) (0, Sl.nil, 0, []) ⟨Nat.zero_le _, .none _, rfl, rfl⟩ ⟨rfl, trivial⟩ rfl ?_
    rintro ⟨k, q, n, c⟩ ⟨hk, ho, rfl, rfl⟩
    refine SX.seq ?_
    refine SX.region ?_
    refine SXL.lss rfl rfl ?_
    refine SXL.nil ?_
    refine thenQ.normal ?_
    refine SX.seq ?_
    refine SX.condP rfl (fun c53 => ?_) (fun c53 => ?_)
    · refine SX.skip ?_
      refine thenQ.normal ?_
      refine SX.seq ?_
      refine SX.block ?_
      refine SX.seq ?_
      obtain ⟨b, o, ha, hm⟩ := hs.street (i := n) (by omega)
      refine SX.region ?_
      refine SXL.indexR el_23 rfl rfl ha (by omega) ?_
      refine SXL.loadN sh_73 rfl (hm _) rfl ?_
      refine SXL.alloc zp_73 ?_; intro b4
      refine SXL.store 4 sz_73 rfl rfl rfl rfl rfl rfl ?_
      refine SXL.nil ?_
      refine thenQ.normal ?_
      refine SX.seq ?_
      refine SX.region ?_
      refine SXL.fieldAddr fp_73_1 rfl ?_
      refine SXL.fieldAddr fp_55_1 rfl ?_
      refine SXL.load1o 4 sh_3 rfl rfl rfl ?_
      refine SXL.assign rfl ?_
      refine SXL.nil ?_
      refine thenQ.normal ?_
      refine SX.seq ?_
      refine SX.seq ?_
      refine SX.region ?_
      refine SXL.move rfl ?_
      refine SXL.nil ?_
      refine thenQ.normal ?_
      refine SX.cond rfl (fun c59 => ?_) (fun c59 => ?_)
      · refine SX.region ?_
        refine SXL.fieldAddr fp_73_1 rfl ?_
        refine SXL.fieldAddr fp_55_0 rfl ?_
        refine SXL.load1o 4 sh_3 rfl rfl rfl ?_
        refine SXL.assign rfl ?_
        refine SXL.nil ?_
        refine thenQ.normal ?_
        refine SX.region ?_
        refine SXL.fieldAddr fp_78_2 rfl ?_
        refine SXL.load1o 2 sh_33 rfl rfl (welC_need hP) ?_
        refine SXL.move rfl ?_
        refine SXL.buildSlice et_33 zp_3 rfl rfl rfl rfl ?_; intro b5
        refine SXL.append 3 ap_33 rfl rfl ho rfl (.inr ⟨_, _, rfl, Mem.own (i := 5) rfl (takeAt_all _)⟩) rfl rfl ⟨by simp only [maxLen]; omega, by omega⟩ ?_; intro r_67 o_67
        refine SXL.fieldAddr fp_78_2 rfl ?_
        refine SXL.store 2 sz_33 rfl rfl rfl rfl rfl (welC_putN hP) ?_
        refine SXL.nil ?_
        refine blockQ.normal ?_
        refine thenQ.normal ?_
        refine SX.region ?_
        refine SXL.add rfl rfl (by omega) ?_
        refine SXL.move rfl ?_
        refine SXL.nil ?_
        refine thenQ.normal ?_
        refine ⟨(n + 1, _, _, _), MeetsW.mkP _ ⟨rfl, trivial⟩ ⟨rfl, rfl, rfl, rfl, rfl, rfl, trivial⟩ rfl, ⟨by omega, o_67, rfl, by rw [take_snocI (show n < (needs u best).length by omega), needs_at (show n < u.streets.length by omega), ints_snoc]; first | (subst c59; rfl) | (rw [if_pos c59]; rfl) | (rw [if_neg (by rw [c59]; decide)]; rfl)⟩, (show u.streets.length - (n + 1) < u.streets.length - n by omega)⟩
      · refine SX.skip ?_
        refine thenQ.normal ?_
        refine SX.region ?_
        refine SXL.fieldAddr fp_78_2 rfl ?_
        refine SXL.load1o 2 sh_33 rfl rfl (welC_need hP) ?_
        refine SXL.move rfl ?_
        refine SXL.buildSlice et_33 zp_3 rfl rfl rfl rfl ?_; intro b5
        refine SXL.append 3 ap_33 rfl rfl ho rfl (.inr ⟨_, _, rfl, Mem.own (i := 5) rfl (takeAt_all _)⟩) rfl rfl ⟨by simp only [maxLen]; omega, by omega⟩ ?_; intro r_67 o_67
        refine SXL.fieldAddr fp_78_2 rfl ?_
        refine SXL.store 2 sz_33 rfl rfl rfl rfl rfl (welC_putN hP) ?_
        refine SXL.nil ?_
        refine blockQ.normal ?_
        refine thenQ.normal ?_
        refine SX.region ?_
        refine SXL.add rfl rfl (by omega) ?_
        refine SXL.move rfl ?_
        refine SXL.nil ?_
        refine thenQ.normal ?_
        refine ⟨(n + 1, _, _, _), MeetsW.mkP _ ⟨rfl, trivial⟩ ⟨rfl, rfl, rfl, rfl, rfl, rfl, trivial⟩ rfl, ⟨by omega, o_67, rfl, by rw [take_snocI (show n < (needs u best).length by omega), needs_at (show n < u.streets.length by omega), ints_snoc]; first | (subst c59; rfl) | (rw [if_pos c59]; rfl) | (rw [if_neg (by rw [c59]; decide)]; rfl)⟩, (show u.streets.length - (n + 1) < u.streets.length - n by omega)⟩
    · refine SX.exit ?_
      refine thenQ.exit ?_
      refine thenQ.exit ?_
      refine blockQ.exit ?_
      refine thenQ.normal ?_
      refine SX.seq ?_
      obtain rfl : n = u.streets.length := by omega
      refine SX.region ?_
      refine SXL.loadNo 2 sh_78 rfl rfl (welC_take hP) ?_
      refine SXL.store 1 sz_78 rfl rfl rfl rfl (welC_len hP) (putAt_all _ _ (welC_len hP)) ?_ (welC_one rfl rfl rfl)
      refine SXL.assign rfl ?_
      refine SXL.nil ?_
      refine thenQ.normal ?_
      refine SX.ret ?_
      refine retQ.sel [3] rfl rfl ?_
      refine retQ.two (ResAt.cellNo 1 sh_78 rfl rfl (welC_take hP)) (ResAt.tmp rfl) ?_
      have hT2 : (needs u best).take u.streets.length = needs u best := List.take_of_length_le (by omega); rw [if_pos hts]; rw [hT2] at ho ⊢; exact ⟨_, q, needs u best, welC_len hP, welC_one rfl rfl rfl, by rw [hNl]; exact ho, rfl, rfl, fun _ => ⟨by rw [hNl], rfl⟩⟩
end Go.Proofs.YtolcicaclflagaaDoor

/- The calculus' rules: sets of numbers kept as maps from numbers to true. Nothing of the program stands here. -/
namespace Go.X
open Go Go.RowKit
/-- A map from numbers to bools that holds true at each of its keys, in the order in which they came. -/
def mkMap (ks : List (Int × Nat)) : List MapEntry := ks.map fun x => { key := .int .i64 x.1, val := .bool true, born := x.2 }
def mkeys (ks : List (Int × Nat)) : List Int := ks.map (·.1)
def mput (ks : List (Int × Nat)) (k : Int) (c : Nat) : List (Int × Nat) := if k ∈ mkeys ks then ks else ks ++ [(k, c)]
def mclk (ks : List (Int × Nat)) (k : Int) (c : Nat) : Nat := if k ∈ mkeys ks then c else c + 1
def mdel (ks : List (Int × Nat)) (k : Int) : List (Int × Nat) := ks.eraseP fun x => x.1 == k
theorem mput_keys {ks : List (Int × Nat)} {k x : Int} {c : Nat} : x ∈ mkeys (mput ks k c) ↔ x = k ∨ x ∈ mkeys ks := by
  unfold mput
  split
  · rename_i h
    exact ⟨.inr, fun hx => hx.elim (fun e => e ▸ h) id⟩
  · simp [mkeys, or_comm]
def mfind (ks : List (Int × Nat)) (k : Int) : Option Nat := ks.findIdx? fun x => x.1 == k
theorem mfind_none {ks : List (Int × Nat)} {k : Int} : mfind ks k = none ↔ k ∉ mkeys ks := by
  simp only [mfind, mkeys, List.findIdx?_eq_none_iff, List.mem_map, not_exists, not_and, beq_eq_false_iff_ne, ne_eq]
theorem findNow_mk (k : Int) : ∀ (ks : List (Int × Nat)) (i : Nat), Instr.findNow (.int .i64) (.int .i64 k) (mkMap ks) i = some ((mfind ks k).map fun j => (i + j, .bool true))
  | [], i => rfl
  | y :: ks, i => by
    have ih := findNow_mk k ks (i + 1)
    by_cases hy : y.1 = k
    · simp [mkMap, Instr.findNow, Instr.sameNow, mfind, List.findIdx?_cons, hy]
    · have hy' : ¬k = y.1 := fun e => hy e.symm
      simp only [mkMap, List.map_cons, Instr.findNow, Instr.sameNow, if_true]
      have e1 : (k == y.1) = false := by simpa using hy'
      rw [e1]
      simp only []
      have ih' : Instr.findNow (.int .i64) (.int .i64 k) (ks.map fun x => { key := .int .i64 x.1, val := .bool true, born := x.2 }) (i + 1) = some ((mfind ks k).map fun j => (i + 1 + j, .bool true)) := ih
      rw [ih']
      have e2 : (y.1 == k) = false := by simpa using hy
      simp only [mfind, List.findIdx?_cons, e2]
      cases ks.findIdx? fun x => x.1 == k <;> simp
      omega
def mapKB (P : Program) (t : TypeId) : Bool := match P.underlying t with
  | some (.map k e) => (match P.underlying k, P.underlying e with | some (.int .i64), some .bool => true | _, _ => false) && (match (P.info? e).bind (·.zero) with | some (.bool false) => true | _ => false)
  | _ => false
theorem mapKB_spec {P : Program} {t : TypeId} (h : mapKB P t = true) : ∃ k e, P.underlying t = some (.map k e) ∧ P.underlying k = some (.int .i64) ∧ P.underlying e = some .bool ∧ (P.info? e).bind (·.zero) = some (.bool false) := by
  unfold mapKB at h
  split at h
  · rename_i k e hu
    rw [Bool.and_eq_true] at h
    refine ⟨k, e, hu, ?_⟩
    obtain ⟨h1, h2⟩ := h
    split at h1
    · rename_i a b
      split at h2
      · rename_i c
        exact ⟨a, b, c⟩
      · cases h2
    · cases h1
  · cases h
section
variable {P : Program} {w : World}
theorem run_checkKey_i64 {k : TypeId} (hu : P.underlying k = some (.int .i64)) (e : Bool) (v : Value) : (Instr.checkKey e 10000 k v).run P w = .ok () w := by
  show (Instr.checkKey e (9999 + 1) k v).run P w = _
  unfold Instr.checkKey
  simp [run_underlying hu, Result.andThen]
theorem run_findKey_mk {k : TypeId} (hu : P.underlying k = some (.int .i64)) (x : Int) (ks : List (Int × Nat)) : (Instr.findKey k (.int .i64 x) (mkMap ks)).run P w = .ok ((mfind ks x).map fun j => (j, .bool true)) w := by
  simp [Instr.findKey, run_underlying hu, Result.andThen, findNow_mk]
theorem run_zero_bool {e : TypeId} (hz : (P.info? e).bind (·.zero) = some (.bool false)) : (zeroValue e).run P w = .ok (.bool false) w := by
  cases hi : P.info? e with
  | none => simp [hi] at hz
  | some inf =>
    simp only [hi, Option.bind_some] at hz
    simp [zeroValue, typeInfo, hi, hz, Result.andThen]
theorem run_lookup_mk {t : TypeId} (ht : mapKB P t = true) {b c : Nat} {ks : List (Int × Nat)} (hb : w.heap[b]? = some (.map ⟨mkMap ks⟩ c)) (x : Int) : (Instr.lookup t (.map (some b)) (.int .i64 x) false).run P w = .ok (.bool (decide (x ∈ mkeys ks))) w := by
  obtain ⟨k, e, hu, hk, he, hz⟩ := mapKB_spec ht
  simp only [Instr.lookup]
  simp [run_underlying hu, MapKept.run_getObj_map hb, Result.andThen, run_checkKey_i64 hk, run_findKey_mk hk]
  cases hf : mfind ks x with
  | none =>
    have := mfind_none.1 hf
    simp [run_zero_bool hz, this]
  | some j =>
    have : x ∈ mkeys ks := Decidable.byContradiction fun hn => by rw [mfind_none.2 hn] at hf; cases hf
    simp [this]
theorem mkMap_get {ks : List (Int × Nat)} {x : Int} {j : Nat} (h : mfind ks x = some j) : (mkMap ks)[j]? = some { key := .int .i64 x, val := .bool true, born := ((ks[j]?).map (·.2)).getD 0 } := by
  unfold mfind at h
  rw [List.findIdx?_eq_some_iff_getElem] at h
  obtain ⟨hlt, hx, _⟩ := h
  have hx' : ks[j].1 = x := by simpa using hx
  simp [mkMap, hlt, hx']
theorem modify_same {l : List MapEntry} : ∀ {j : Nat} {e : MapEntry} (f : MapEntry → MapEntry), l[j]? = some e → f e = e → l.modify j f = l := by
  induction l with
  | nil => intro j e f h; simp at h
  | cons x l ih =>
    intro j e f h hf
    cases j with
    | zero => simp at h; subst h; simp [hf]
    | succ j => simp [ih f (by simpa using h) hf]
theorem mkMap_snoc (ks : List (Int × Nat)) (x : Int) (c : Nat) : mkMap (ks ++ [(x, c)]) = mkMap ks ++ [{ key := .int .i64 x, val := .bool true, born := c }] := by simp [mkMap]
theorem run_put_mk {t : TypeId} (ht : mapKB P t = true) {b c : Nat} {ks : List (Int × Nat)} (hb : w.heap[b]? = some (.map ⟨mkMap ks⟩ c)) (x : Int) :
    (Instr.mapUpdate t (.map (some b)) (.int .i64 x) (.bool true)).run P w = .ok () { w with heap := w.heap.setIfInBounds b (.map ⟨mkMap (mput ks x c)⟩ (mclk ks x c)) } := by
  obtain ⟨k, e, hu, hk, he, hz⟩ := mapKB_spec ht
  cases hf : mfind ks x with
  | none =>
    have hn := mfind_none.1 hf
    simp [Instr.mapUpdate, run_underlying hu, MapKept.run_getObj_map hb, Result.andThen, run_checkKey_i64 hk, run_findKey_mk hk, hf, MapKept.run_setObj_map _ hb, mput, mclk, hn, mkMap_snoc]
  | some j =>
    have hy : x ∈ mkeys ks := Decidable.byContradiction fun hn => by rw [mfind_none.2 hn] at hf; cases hf
    have hg := mkMap_get hf
    have hstay : (Instr.keyThatStays (.int .i64 x) (.int .i64 x)).run P w = .ok (.int .i64 x) w := by
      simp [Instr.keyThatStays, Instr.sameBits]
    have hm : (mkMap ks).modify j (fun e => { e with key := .int .i64 x, val := .bool true }) = mkMap ks := modify_same _ hg rfl
    simp [Instr.mapUpdate, run_underlying hu, MapKept.run_getObj_map hb, Result.andThen, run_checkKey_i64 hk, run_findKey_mk hk, hf, MapKept.run_setObj_map _ hb, mput, mclk, hy, hg, hstay]
    rw [hm]
end
section
variable {C : Cx} {Q : Post} {env : Env} {own : Own} {D : List Deferred} {ops : Array Oper} {rest : List Oper}
variable {d : Nat} {ty : TypeId} {pos : String} {aft : Array Edge} {g : Option (Nat × Bool)} {x y z : Operand} {T : TypeId}
theorem SXL.makeMap (h : ∀ b, SXL C ops rest Q ⟨(d, .map (some b)) :: env, own ++ [(b, .map ⟨mkMap []⟩ 0)], D⟩)
    (hd : Nat.blt d C.n = true := by rfl) (hw : Wanted ops g env = some true := by rfl) (hdr : C.dr = false := by rfl) :
    SXL C ops ({ dst := some d, op := .makeMap T none, type := ty, pos, after := aft, guard := g } :: rest) Q ⟨env, own, D⟩ :=
  SXL.new (f := fun b => .map (some b)) rfl hd hw (fun _ e => by cases e) (fun a w ha hI => by
    simp [execOp, Instr.makeMap, Result.andThen, mkMap]) h hdr
theorem SXL.mapGet (i : Nat) {b c : Nat} {ks : List (Int × Nat)} {k : Int} (hT : mapKB C.P T = true) (hx : ev env x = some (.map (some b))) (hy : ev env y = some (.int .i64 k)) (hi : own[i]? = some (b, .map ⟨mkMap ks⟩ c))
    (h : SXL C ops rest Q ⟨(d, .bool (decide (k ∈ mkeys ks))) :: env, own, D⟩) (hd : Nat.blt d C.n = true := by rfl) (hw : Wanted ops g env = some true := by rfl) :
    SXL C ops ({ dst := some d, op := .lookup T x y false, type := ty, pos, after := aft, guard := g } :: rest) Q ⟨env, own, D⟩ :=
  SXL.val rfl hd hw (fun _ e => by cases e) (fun a w ha hI => by
    simp only [execOp, ha.eval hx, ha.eval hy]
    exact run_val (run_lookup_mk hT (hI.get hi rfl).2 k)) h
theorem Inv.setMap {w0 w : World} {own : Own} (h : Inv w0 own w) {i b c c' : Nat} {es es' : Array MapEntry} (hi : own[i]? = some (b, .map es c)) :
    Inv w0 (own.set i (b, .map es' c')) { w with heap := w.heap.setIfInBounds b (.map es' c') } := by
  have hb := (h.get hi rfl).2
  have hlt := (Array.getElem?_eq_some_iff.1 hb).1
  exact h.set hi rfl (fun k hk => by simp [hk.symm]) (by simp [hlt]) (by simp) rfl rfl rfl
theorem SXL.mapPut (i : Nat) {b c : Nat} {ks : List (Int × Nat)} {k : Int} (hT : mapKB C.P T = true) (hx : ev env x = some (.map (some b))) (hy : ev env y = some (.int .i64 k)) (hz : ev env z = some (.bool true)) (hi : own[i]? = some (b, .map ⟨mkMap ks⟩ c))
    (h : SXL C ops rest Q ⟨env, own.set i (b, .map ⟨mkMap (mput ks k c)⟩ (mclk ks k c)), D⟩) (hw : Wanted ops g env = some true := by rfl) (hdr : C.dr = false := by rfl) :
    SXL C ops ({ dst := none, op := .mapUpdate T x y z, type := ty, pos, after := aft, guard := g } :: rest) Q ⟨env, own, D⟩ :=
  SXL.op hw (fun _ e => by cases e) (hdr := hdr) fun a w hc => by
    have hr := run_put_mk hT (hc.2.2.get hi rfl).2 k
    refine ⟨undef, _, .inr ⟨?_, rfl⟩, ⟨env, own.set i (b, .map ⟨mkMap (mput ks k c)⟩ (mclk ks k c)), D⟩, fun a' ha' hD' => ⟨ha', hD', hc.2.2.setMap hi⟩, h⟩
    simp only [execOp, hc.1.eval hx, hc.1.eval hy, hc.1.eval hz]
    simp [hr, Result.andThen]
end
end Go.X

/- The walks of the package town: what is asked. -/
namespace Go.Proofs.YtolcicaclflagaaDoor
open Go.X Go.S Go.T Go.RowKit
theorem tasked_any (u : Su) (fo so : Option Addr) (fc sc : Nat) (fa : Nat → FA) (sa : Nat → DA) (week : Int) (best : Bool) (p : Prop) [Decidable p] (e : Int) (he : ¬p → e ≠ 0) (hl : LitP u) (w : World) (hg : Gt w) (hs : SuAt w u fo so fa sa) :
    CallsR Tryd.prog 42 [.agg ⟨[.slice fo u.founts.length fc, .slice so u.streets.length sc]⟩, .int .i64 week, .bool best, .bool (decide p), .int .i64 e] w (DrR u fo so fc sc week best (askT u week p e)) := by
  refine CallsR.of_SX (n := 37) (rs := [.cell 10 78, .tmp 11]) Tryd.func42 rfl rfl rfl rfl ?_
  show SX _ _ _ ⟨[(0, .agg ⟨[.slice fo u.founts.length fc, .slice so u.streets.length sc]⟩), (1, .int .i64 week), (2, .bool best), (3, .bool (decide p)), (4, .int .i64 e)], [], []⟩
  refine SX.seq ?_
  refine SX.region ?_
  refine SXL.box rfl rfl ?_; intro b0
  refine SXL.alloc zp_78 ?_; intro b1
  refine SXL.assign rfl ?_
  refine SXL.nil ?_
  refine thenQ.normal ?_
  refine SX.seq ?_
  refine SX.seq ?_
  refine SX.region ?_
  refine SXL.loadNo 0 sh_25 rfl rfl rfl ?_
  refine SXL.call1 (.int .i64 (if SuP u then 0 else 90)) fn_18 rfl (fun w hI => tcheck_any u fo so fc sc fa sa hl w (hg.inv hI) (hs.inv hI)) ?_
  refine SXL.assign rfl ?_
  refine SXL.nil ?_
  refine thenQ.normal ?_
  refine SX.seq ?_
  refine SX.region ?_
  refine SXL.move rfl ?_
  refine SXL.neqI rfl rfl ?_
  refine SXL.nil ?_
  refine thenQ.normal ?_
  refine SX.condP rfl (fun c16 => ?_) (fun c16 => ?_)
  · refine SX.seq ?_
    refine SX.region ?_
    refine SXL.buildS pl_78 zp_78 rfl rfl ?_
    refine SXL.move rfl ?_
    refine SXL.store 1 sz_78 rfl rfl rfl rfl rfl rfl ?_
    refine SXL.assign rfl ?_
    refine SXL.nil ?_
    refine thenQ.normal ?_
    refine SX.ret ?_
    refine thenQ.ret ?_
    refine retQ.dead [Sl.nil.ent 3 []] rfl ?_
    refine retQ.two (ResAt.cellNo 1 sh_78 rfl rfl rfl) (ResAt.tmp rfl) ?_
    have hx : ¬SuP u := fun h => c16 (if_pos h); rw [if_neg hx]; rw [askT, if_pos hx]; exact DrR.errs rfl rfl rfl (by decide)
  · refine SX.skip ?_
    refine thenQ.normal ?_
    refine SX.seq ?_
    refine SX.seq ?_
    have hv : SuP u := Classical.byContradiction (fun hx => c16 (by rw [if_neg hx]; decide))
    have hlo := hv.long
    refine SX.region ?_
    refine SXL.loadNo 0 sh_25 rfl rfl rfl ?_
    refine SXL.call1 (.int .i64 (long u)) fn_39 rfl (fun w hI => tweeks_any u fo so fc sc fa sa (hv) w (hs.inv hI)) ?_
    refine SXL.sub rfl rfl (by omega) ?_
    refine SXL.move rfl ?_
    refine SXL.buildSlice et_33 zp_3 rfl rfl rfl rfl ?_; intro b2
    refine SXL.call1 (.bool (decide (Wi (week) (0) (long u - 1)))) fn_59 rfl (fun w hI => tin1_own hI 2 (week) (0) (long u - 1) rfl) ?_
    refine SXL.not rfl ?_
    refine SXL.nil ?_
    refine thenQ.normal ?_
    refine SX.condP rfl (fun c25 => ?_) (fun c25 => ?_)
    · refine SX.seq ?_
      refine SX.region ?_
      refine SXL.buildS pl_78 zp_78 rfl rfl ?_
      refine SXL.store 1 sz_78 rfl rfl rfl rfl rfl rfl ?_
      refine SXL.assign rfl ?_
      refine SXL.nil ?_
      refine thenQ.normal ?_
      refine SX.ret ?_
      refine thenQ.ret ?_
      refine retQ.dead [Sl.nil.ent 3 []] rfl ?_
      refine retQ.two (ResAt.cellNo 1 sh_78 rfl rfl rfl) (ResAt.tmp rfl) ?_
      rw [askT, if_neg (Classical.not_not.2 hv), if_pos c25]; exact DrR.errs rfl rfl rfl (by decide)
    · refine SX.skip ?_
      refine thenQ.normal ?_
      refine SX.seq ?_
      refine SX.seq ?_
      have hw := Classical.not_not.1 c25
      refine SX.region ?_
      refine SXL.move rfl ?_
      refine SXL.not rfl ?_
      refine SXL.nil ?_
      refine thenQ.normal ?_
      refine SX.condP rfl (fun c28 => ?_) (fun c28 => ?_)
      · refine SX.seq ?_
        refine SX.region ?_
        refine SXL.buildS pl_78 zp_78 rfl rfl ?_
        refine SXL.move rfl ?_
        refine SXL.store 1 sz_78 rfl rfl rfl rfl rfl rfl ?_
        refine SXL.assign rfl ?_
        refine SXL.nil ?_
        refine thenQ.normal ?_
        refine SX.ret ?_
        refine thenQ.ret ?_
        refine retQ.dead [Sl.nil.ent 3 []] rfl ?_
        refine retQ.two (ResAt.cellNo 1 sh_78 rfl rfl rfl) (ResAt.tmp rfl) ?_
        rw [askT, if_neg (Classical.not_not.2 hv), if_neg (Classical.not_not.2 hw), if_pos c28]; exact DrR.errs rfl rfl rfl (he c28)
      · refine SX.skip ?_
        refine thenQ.normal ?_
        refine SX.seq ?_
        have hp := Classical.not_not.1 c28
        refine SX.region ?_
        refine SXL.loadNo 0 sh_25 rfl rfl rfl ?_
        refine SXL.move rfl ?_
        refine SXL.move rfl ?_
        refine SXL.callF (DrR u fo so fc sc week best (if TrueS u then 0 else 8)) fn_88 rfl (fun w hI => tdrawn_any u fo so fc sc fa sa week best hl hv hw w (hg.inv hI) (hs.inv hI)) ?_; rintro _ _ ⟨C, r, N, hC1, hC2, ho, rfl, rfl, hok⟩
        refine SXL.extract rfl rfl ?_
        refine SXL.extract rfl rfl ?_
        refine SXL.store 1 sz_78 rfl rfl rfl rfl hC1 (putAt_all _ _ hC1) ?_ hC2
        refine SXL.assign rfl ?_
        refine SXL.nil ?_
        refine thenQ.normal ?_
        refine SX.ret ?_
        refine retQ.sel [3] rfl rfl ?_
        refine retQ.two (ResAt.cellNo 1 sh_78 rfl rfl (takeAt_full hC1)) (ResAt.tmp rfl) ?_
        rw [askT, if_neg (Classical.not_not.2 hv), if_neg (Classical.not_not.2 hw), if_neg (Classical.not_not.2 hp)]; exact ⟨C, r, N, hC1, hC2, ho, rfl, rfl, hok⟩
/-- A list of numbers and an error. -/
structure LeR (l : List Int) (e : Int) (v : Value) (own : X.Own) : Prop where
  ex : ∃ r : Sl, r.Ok l.length 1 (ints l) ∧ v = .tuple ⟨[r.val l.length, .int .i64 e]⟩ ∧ own = [r.ent 3 (ints l)]
def watR (u : Su) (week : Int) (best : Bool) : List Int := if askT u week True 0 = 0 then waterL u week best else []
theorem LeR.errs {l : List Int} {e e' : Int} (h : l = []) (he : e' = e) : LeR l e (.tuple ⟨[.slice none 0 0, .int .i64 e']⟩) [Sl.nil.ent 3 []] := by
  subst h he; exact ⟨Sl.nil, .none _, rfl, rfl⟩
end Go.Proofs.YtolcicaclflagaaDoor

/- Sets of streets as lists of numbers; sums over them. Nothing of Go stands here. -/
namespace Go.T
open Go.S
/-- The streets of a set, of the first k. -/
def memb (b : Nat) : Nat → List Int
  | 0 => []
  | k + 1 => if hasI b k then memb b k ++ [(k : Int)] else memb b k
theorem memb_in (b : Nat) : ∀ k, ∀ x ∈ memb b k, 0 ≤ x ∧ x < (k : Int)
  | 0, x, h => by simp [memb] at h
  | k + 1, x, h => by
    have ih := memb_in b k x
    simp only [memb] at h
    split at h
    · rcases List.mem_append.1 h with h | h
      · have := ih h; omega
      · simp at h; omega
    · have := ih h; omega
theorem memb_len (b : Nat) : ∀ k, (memb b k).length ≤ k
  | 0 => Nat.le_refl _
  | k + 1 => by
    have ih := memb_len b k
    simp only [memb]; split
    · simp; omega
    · omega
/-- The sum of the numbers at the first k of some places. -/
def sumIx (I L : List Int) : Nat → Int
  | 0 => 0
  | k + 1 => sumIx I L k + L.getD (I.getD k 0).toNat 0
theorem sumIx_app (I J L : List Int) : ∀ k, k ≤ I.length → sumIx (I ++ J) L k = sumIx I L k
  | 0, _ => rfl
  | k + 1, h => by
    have ih := sumIx_app I J L k (by omega)
    simp only [sumIx]; rw [ih]
    congr 2
    rw [List.getD_eq_getElem?_getD, List.getElem?_append_left (by omega), ← List.getD_eq_getElem?_getD]
theorem sumIx_memb (b : Nat) (L : List Int) : ∀ k, sumIx (memb b k) L (memb b k).length = sumTo b L k
  | 0 => rfl
  | k + 1 => by
    have ih := sumIx_memb b L k
    simp only [memb, sumTo]
    split
    · rw [List.length_append, List.length_singleton]
      simp only [sumIx]
      rw [sumIx_app _ _ _ _ (Nat.le_refl _), ih]
      simp [List.getD_eq_getElem?_getD]
    · exact ih
/-- Numbers of which sums do not grow too large. -/
def Sm (l : List Int) : Prop := ∀ k : Nat, -1000000 ≤ l.getD k 0 ∧ l.getD k 0 ≤ 1000000
theorem sumIx_in {I L : List Int} (h : Sm L) : ∀ k : Nat, -(1000000 * (k : Int)) ≤ sumIx I L k ∧ sumIx I L k ≤ 1000000 * (k : Int)
  | 0 => by simp [sumIx]
  | k + 1 => by
    have ih := sumIx_in (I := I) h k
    have h1 := h (I.getD k 0).toNat
    simp only [sumIx]; omega
theorem sumTo_in {b : Nat} {L : List Int} (h : Sm L) : ∀ k : Nat, -(1000000 * (k : Int)) ≤ sumTo b L k ∧ sumTo b L k ≤ 1000000 * (k : Int)
  | 0 => by simp [sumTo]
  | k + 1 => by
    have ih := sumTo_in (b := b) h k
    have h1 := h k
    simp only [sumTo]; split <;> omega
theorem thrTo_in {u : Su} {b : Nat} {W : List Int} (h : Sm W) : ∀ k : Nat, -(1000000 * (k : Int)) ≤ thrTo u b W k ∧ thrTo u b W k ≤ 1000000 * (k : Int)
  | 0 => by simp [thrTo]
  | k + 1 => by
    have ih := thrTo_in (u := u) (b := b) h k
    have h1 := h k
    simp only [thrTo]; split <;> omega
theorem Sm.of {l : List Int} (h : ∀ k, 0 ≤ l.getD k 0 ∧ l.getD k 0 ≤ 100) : Sm l := fun k => by have := h k; omega
theorem sumB_memb {u : Su} {b : Nat} {L : List Int} (hL : L.length = u.streets.length) : sumIx (memb b u.streets.length) L (memb b u.streets.length).length = sumB b L := by
  rw [sumIx_memb, sumB, hL]
/-- What is open behind one street more. -/
theorem opens_add {u : Su} {b i : Nat} {K K' : List Int} (hK : ∀ id, id ∈ K ↔ opnB u b id i) (hb : hasI b i) (hK' : ∀ id, id ∈ K' ↔ id ∈ K ∨ id ∈ (u.streets.getD i default).draws) (id : Int) : id ∈ K' ↔ opnB u b id (i + 1) := by
  rw [hK', hK]; simp only [opnB]
  exact ⟨fun h => h.elim .inl fun h => .inr ⟨hb, h⟩, fun h => h.elim .inl fun h => .inr h.2⟩
theorem opens_same {u : Su} {b i : Nat} {K : List Int} (hK : ∀ id, id ∈ K ↔ opnB u b id i) (hb : ¬hasI b i) (id : Int) : id ∈ K ↔ opnB u b id (i + 1) := by
  rw [hK]; simp only [opnB]
  exact ⟨.inl, fun h => h.elim (fun h => h) fun h => absurd h.1 hb⟩
theorem mem_take_snoc {l : List Int} {j : Nat} (hj : j < l.length) {x : Int} : x ∈ l.take (j + 1) ↔ x ∈ l.take j ∨ x = l.getD j 0 := by
  rw [take_snocI hj, List.mem_append, List.mem_singleton]
theorem canP_iff {u : Su} {W L : List Int} (hL : L.length = u.streets.length) : CanP u W L ↔ ∀ c, c < 2 ^ u.streets.length → sumB c L ≤ thr u c W := by unfold CanP; rw [hL]
end Go.T

/- The walks of the package town: whether a sharing can be. -/
namespace Go.Proofs.YtolcicaclflagaaDoor
open Go.X Go.S Go.T Go.RowKit
theorem of_any (J L : List Int) (th : Int) (ao lo : Option Addr) (ac lc : Nat) (hJ : J.length ≤ 10) (hJL : ∀ x ∈ J, 0 ≤ x ∧ x < (L.length : Int)) (hLs : Sm L) (w : World) (h1 : RowsAt w ao 1 (ones J)) (h2 : RowsAt w lo 1 (ones L)) :
    CallsR Tryd.prog 68 [.agg ⟨[.slice ao J.length ac, .int .i64 th]⟩, .slice lo L.length lc] w (fun v _ => v = .int .i64 (sumIx J L J.length)) := by
  refine CallsR.of_SX (n := 23) (rs := [.tmp 4]) Tryd.func68 rfl rfl rfl rfl ?_
  show SX _ _ _ ⟨[(0, .agg ⟨[.slice ao J.length ac, .int .i64 th]⟩), (1, .slice lo L.length lc)], [], []⟩
  refine SX.seq ?_
  refine SX.region ?_
  refine SXL.box rfl rfl ?_; intro b0
  refine SXL.assign rfl ?_
  refine SXL.nil ?_
  refine thenQ.normal ?_
  refine SX.seq ?_
  refine SX.region ?_
  refine SXL.assign rfl ?_
  refine SXL.nil ?_
  refine thenQ.normal ?_
  refine SX.seq ?_
  refine SX.seq ?_
  refine SX.region ?_
  refine SXL.fieldAddr fp_109_0 rfl ?_
  refine SXL.load1o 0 sh_33 rfl rfl rfl ?_
  refine SXL.len is_33 rfl ?_
  refine SXL.move rfl ?_
  refine SXL.nil ?_
  refine thenQ.normal ?_
  refine SX.block ?_
  refine SX.loopG (α := Nat) [1, 4, 9, 10] rfl (fun k => [(11, .int .i64 ((k : Int))), (5, .int .i64 ((sumIx J L k)))]) (fun k => []) (fun k => k ≤ J.length) (fun k => J.length - k) 0 (Nat.zero_le _) ⟨rfl, rfl, trivial⟩ rfl ?_
  rintro k hk
  refine SX.seq ?_
  refine SX.region ?_
  refine SXL.lss rfl rfl ?_
  refine SXL.nil ?_
  refine thenQ.normal ?_
  refine SX.seq ?_
  refine SX.condP rfl (fun c12 => ?_) (fun c12 => ?_)
  · refine SX.skip ?_
    refine thenQ.normal ?_
    refine SX.seq ?_
    refine SX.block ?_
    refine SX.seq ?_
    obtain ⟨b, o, ha, hm⟩ := oneI h1 (i := k) (by omega)
    have hx := hJL (J.getD k 0) (by rw [List.getD_eq_getElem?_getD, List.getElem?_eq_getElem (by omega)]; exact List.getElem_mem _)
    obtain ⟨b2, o2, ha2, hm2⟩ := oneI h2 (i := (J.getD k 0).toNat) (by omega)
    have hb1 := sumIx_in (I := J) hLs k
    have hb2 := hLs (J.getD k 0).toNat
    refine SX.region ?_
    refine SXL.indexR el_33 rfl rfl ha (by omega) ?_
    refine SXL.load1 sh_3 rfl (hm _) ?_
    refine SXL.assign rfl ?_
    refine SXL.nil ?_
    refine thenQ.normal ?_
    refine SX.region ?_
    refine SXL.move rfl ?_
    refine SXL.move rfl ?_
    refine SXL.move rfl ?_
    refine SXL.indexR el_33 rfl rfl ha2 (by omega) ?_
    refine SXL.load1 sh_3 rfl (hm2 _) ?_
    refine SXL.add rfl rfl (by omega) ?_
    refine SXL.assign rfl ?_
    refine SXL.nil ?_
    refine blockQ.normal ?_
    refine thenQ.normal ?_
    refine SX.region ?_
    refine SXL.add rfl rfl (by omega) ?_
    refine SXL.move rfl ?_
    refine SXL.nil ?_
    refine thenQ.normal ?_
    refine ⟨k + 1, Meets.mk _ ⟨rfl, rfl, trivial⟩ ⟨rfl, rfl, rfl, rfl, trivial⟩ rfl, (by omega), (by omega)⟩
  · refine SX.exit ?_
    refine thenQ.exit ?_
    refine thenQ.exit ?_
    refine blockQ.exit ?_
    refine thenQ.normal ?_
    refine SX.seq ?_
    obtain rfl : k = J.length := by omega
    refine SX.region ?_
    refine SXL.move rfl ?_
    refine SXL.assign rfl ?_
    refine SXL.nil ?_
    refine thenQ.normal ?_
    refine SX.ret ?_
    refine retQ.one (ResAt.tmp rfl) ?_
    rfl
theorem mk_94 : mapKB Tryd.prog 94 = true := by kernel_rfl
/-- The iterator of the sets. -/
structure ItS (u : Su) (fo so : Option Addr) (fc sc : Nat) (W : List Int) (nv : Value) (v : Value) (own : X.Own) : Prop where
  ex : ∃ b, v = .func (.func 94) ⟨[]⟩ ⟨[.pointer (some ⟨b, 0, none⟩)]⟩ ∧ own = [(b, .cells ⟨suW u fo so fc sc W nv⟩ 78 (0, 0))]
theorem sets_any (u : Su) (fo so : Option Addr) (fc sc : Nat) (W : List Int) (nv : Value) (w : World) :
    CallsR Tryd.prog 67 [.agg ⟨suW u fo so fc sc W nv⟩] w (ItS u fo so fc sc W nv) := by
  refine CallsR.of_SX (n := 4) (rs := [.tmp 2]) Tryd.func67 rfl rfl rfl rfl ?_
  show SX _ _ _ ⟨[(0, .agg ⟨suW u fo so fc sc W nv⟩)], [], []⟩
  refine SX.seq ?_
  refine SX.region ?_
  refine SXL.box rfl rfl ?_; intro b0
  refine SXL.assign rfl ?_
  refine SXL.nil ?_
  refine thenQ.normal ?_
  refine SX.seq ?_
  refine SX.region ?_
  refine SXL.makeFunc rfl rfl ?_
  refine SXL.assign rfl ?_
  refine SXL.nil ?_
  refine thenQ.normal ?_
  refine SX.ret ?_
  refine retQ.one (ResAt.tmp rfl) ?_
  exact ⟨b0, rfl, rfl⟩
set_option maxHeartbeats 4000000 in
theorem can_any (u : Su) (fo so : Option Addr) (fc sc : Nat) (fa : Nat → FA) (sa : Nat → DA) (W : List Int) (no : Option Addr) (nn nc : Nat) (L : List Int) (lo : Option Addr) (lc : Nat) (hz : SizeP u) (hLn : L.length = u.streets.length) (hLs : Sm L) (hW : W.length = 4) (hWs : Sm W) (hl : LitP u) (w : World) (hs : SuAt w u fo so fa sa) (hlo : RowsAt w lo 1 (ones L)) :
    CallsR Tryd.prog 48 [.agg ⟨suW u fo so fc sc W (.slice no nn nc)⟩, .slice lo L.length lc] w (fun v _ => v = .bool (decide (CanP u W L))) := by
  have hL0 := hl.1
  have hL1 := hl.2.1
  have hL2 := hl.2.2
  unfold SizeP at hz
  have hpw : (2 : Nat) ^ u.streets.length ≤ 32 := Nat.le_trans (Nat.pow_le_pow_right (by omega) hz.2) (by decide)
  refine CallsR.of_SX (n := 15) (rs := [.cell 4 4]) Tryd.func48 rfl rfl rfl rfl ?_
  show SX _ _ _ ⟨[(0, .agg ⟨suW u fo so fc sc W (.slice no nn nc)⟩), (1, .slice lo L.length lc)], [], []⟩
  refine SX.seq ?_
  refine SX.region ?_
  refine SXL.box rfl rfl ?_; intro b0
  refine SXL.box rfl rfl ?_; intro b1
  refine SXL.alloc zp_4 ?_; intro b2
  refine SXL.nil ?_
  refine thenQ.normal ?_
  refine SX.seq ?_
  refine SX.seq ?_
  refine SX.region ?_
  refine SXL.loadNo 0 sh_78 rfl rfl (welC_take hW) ?_
  refine SXL.callF (ItS u fo so fc sc W (.slice no nn nc)) fn_67 rfl (fun w hI => sets_any u fo so fc sc W (.slice no nn nc) w) ?_; rintro _ _ ⟨bi, rfl, rfl⟩
  refine SXL.nil ?_
  refine thenQ.normal ?_
  refine SX.block ?_
  refine SX.rangeFuncX (f := 94) (nf := 79) (rs := []) rfl fn_94 Tryd.func94 rfl rfl rfl rfl ?_
  intro fn T r l ob oj hT hob hoj
  refine SX.seq ?_
  refine SX.region ?_
  refine SXL.fieldAddr fp_78_0 rfl ?_
  refine SXL.fieldAddr fp_25_1 rfl ?_
  refine SXL.load1o 3 sh_23 rfl rfl rfl ?_
  refine SXL.len is_23 rfl ?_
  refine SXL.shlN rfl rfl (by omega) ?_
  refine SXL.move rfl ?_
  refine SXL.nil ?_
  refine thenQ.normal ?_
  refine SX.block ?_
  refine SX.loopW (α := Nat × Unit) [0, 1, 16] rfl (fun ⟨b, _⟩ => [(17, .int .i64 ((b : Int)))]) (fun ⟨b, _⟩ => [(b0, .cells ⟨suW u fo so fc sc W (.slice no nn nc)⟩ 78 (0, 0)), (b1, .cells ⟨[.slice lo L.length lc]⟩ 33 (0, 0)), (b2, .cells ⟨[.bool false]⟩ 4 (0, 0)), (bi, .cells ⟨suW u fo so fc sc W (.slice no nn nc)⟩ 78 (0, 0)), (r, .deferred (some [])), (l, ob .ready)]) (fun ⟨b, _⟩ => []) (fun ⟨b, _⟩ => b ≤ 2 ^ u.streets.length ∧ (∀ d, d < b → sumB d L ≤ thr u d W)) (fun ⟨b, _⟩ => 2 ^ u.streets.length - b) (0, ()) ⟨Nat.zero_le _, fun d hd => absurd hd (Nat.not_lt_zero _)⟩ ⟨rfl, trivial⟩ rfl ?_
  rintro ⟨b, _⟩ ⟨hb, hC⟩
  refine SX.seq ?_
  refine SX.region ?_
  refine SXL.lss rfl rfl ?_
  refine SXL.nil ?_
  refine thenQ.normal ?_
  refine SX.seq ?_
  refine SX.condP rfl (fun c18 => ?_) (fun c18 => ?_)
  · refine SX.skip ?_
    refine thenQ.normal ?_
    refine SX.seq ?_
    refine SX.block ?_
    refine SX.seq ?_
    refine SX.region ?_
    refine SXL.move rfl ?_
    refine SXL.assign rfl ?_
    refine SXL.nil ?_
    refine thenQ.normal ?_
    refine SX.seq ?_
    refine SX.region ?_
    refine SXL.alloc zp_109 ?_; intro b6
    refine SXL.nil ?_
    refine thenQ.normal ?_
    refine SX.seq ?_
    refine SX.region ?_
    refine SXL.makeMap ?_; intro b7
    refine SXL.assign rfl ?_
    refine SXL.nil ?_
    refine thenQ.normal ?_
    refine SX.seq ?_
    refine SX.seq ?_
    refine SX.pad (Sl.nil.ent 3 []) rfl ?_
    refine SX.region ?_
    refine SXL.fieldAddr fp_78_0 rfl ?_
    refine SXL.fieldAddr fp_25_1 rfl ?_
    refine SXL.load1o 3 sh_23 rfl rfl rfl ?_
    refine SXL.len is_23 rfl ?_
    refine SXL.move rfl ?_
    refine SXL.nil ?_
    refine thenQ.normal ?_
    refine SX.block ?_
    refine SX.loopW (α := Nat × Sl × Nat × List Value × List (Int × Nat) × Nat) [0, 1, 3, 4, 5, 16, 17, 23, 24] rfl (fun ⟨i, q, n, c, ks, cl⟩ => [(25, .int .i64 ((i : Int)))]) (fun ⟨i, q, n, c, ks, cl⟩ => [(b0, .cells ⟨suW u fo so fc sc W (.slice no nn nc)⟩ 78 (0, 0)), (b1, .cells ⟨[.slice lo L.length lc]⟩ 33 (0, 0)), (b2, .cells ⟨[.bool false]⟩ 4 (0, 0)), (bi, .cells ⟨suW u fo so fc sc W (.slice no nn nc)⟩ 78 (0, 0)), (r, .deferred (some [])), (l, ob .ready), (b6, .cells ⟨[q.val n, .int .i64 (0)]⟩ 109 (0, 0)), (b7, .map ⟨mkMap ks⟩ cl), q.ent 3 c]) (fun ⟨i, q, n, c, ks, cl⟩ => []) (fun ⟨i, q, n, c, ks, cl⟩ => i ≤ u.streets.length ∧ q.Ok n 1 c ∧ c = ints (memb b i) ∧ ∀ id, id ∈ mkeys ks ↔ opnB u b id i) (fun ⟨i, q, n, c, ks, cl⟩ => u.streets.length - i) (0, Sl.nil, 0, [], [], 0) ⟨Nat.zero_le _, .none _, rfl, fun id => by simp [mkeys, opnB]⟩ ⟨rfl, trivial⟩ rfl ?_
    rintro ⟨i, q, n, c, ks, cl⟩ ⟨hi, ho, rfl, hks⟩
    have hn := Ok.n ho
    have hml := memb_len b i
    refine SX.seq ?_
    refine SX.region ?_
    refine SXL.lss rfl rfl ?_
    refine SXL.nil ?_
    refine thenQ.normal ?_
    refine SX.seq ?_
    refine SX.condP rfl (fun c26 => ?_) (fun c26 => ?_)
    · refine SX.skip ?_
      refine thenQ.normal ?_
      refine SX.seq ?_
      refine SX.block ?_
      refine SX.seq ?_
      obtain ⟨bs, os, ha, hm⟩ := hs.street (i := i) (by omega)
      have hLk := hL2 i (by omega)
      have hbi : b / 2 ^ i ≤ b := Nat.div_le_self _ _
      refine SX.region ?_
      refine SXL.move rfl ?_
      refine SXL.indexR el_23 rfl rfl ha (by omega) ?_
      refine SXL.loadN sh_73 rfl (hm _) rfl ?_
      refine SXL.alloc zp_73 ?_; intro b9
      refine SXL.assign rfl ?_
      refine SXL.store 9 sz_73 rfl rfl rfl rfl rfl rfl ?_
      refine SXL.nil ?_
      refine thenQ.normal ?_
      refine SX.seq ?_
      refine SX.seq ?_
      refine SX.region ?_
      refine SXL.move rfl ?_
      refine SXL.move rfl ?_
      refine SXL.shrN rfl rfl (by omega) ?_
      refine SXL.and1 rfl rfl (by omega) ?_
      refine SXL.eqlI rfl rfl ?_
      refine SXL.nil ?_
      refine thenQ.normal ?_
      refine SX.condP rfl (fun c34 => ?_) (fun c34 => ?_)
      · refine SX.exit ?_
        refine thenQ.exit ?_
        refine blockQ.exit ?_
        refine thenQ.normal ?_
        refine SX.region ?_
        refine SXL.add rfl rfl (by omega) ?_
        refine SXL.move rfl ?_
        refine SXL.nil ?_
        refine thenQ.normal ?_
        refine ⟨(i + 1, _, _, _, _, _), MeetsW.mkP _ ⟨rfl, trivial⟩ ⟨rfl, rfl, rfl, rfl, rfl, rfl, rfl, rfl, rfl, trivial⟩ rfl, ?_, (show u.streets.length - (i + 1) < u.streets.length - i by omega)⟩
        refine ⟨by omega, ?_⟩
        first
          | exact ⟨o_39, by rw [memb, if_pos (show hasI b i by unfold hasI; omega), ints_snoc], opens_add hks (show hasI b i by unfold hasI; omega) (fun id => by rw [hks2 id, List.take_of_length_le (by omega)])⟩
          | exact ⟨ho, by rw [memb, if_neg (show ¬hasI b i by unfold hasI; omega)], opens_same hks (show ¬hasI b i by unfold hasI; omega)⟩
      · refine SX.skip ?_
        refine thenQ.normal ?_
        refine SX.seq ?_
        refine SX.region ?_
        refine SXL.fieldAddr fp_109_0 rfl ?_
        refine SXL.load1o 6 sh_33 rfl rfl rfl ?_
        refine SXL.move rfl ?_
        refine SXL.buildSlice et_33 zp_3 rfl rfl rfl rfl ?_; intro b10
        refine SXL.append 8 ap_33 rfl rfl ho rfl (.inr ⟨_, _, rfl, Mem.own (i := 10) rfl (takeAt_all _)⟩) rfl rfl ⟨by simp only [maxLen]; omega, by omega⟩ ?_; intro r_39 o_39
        refine SXL.fieldAddr fp_109_0 rfl ?_
        refine SXL.store 6 sz_33 rfl rfl rfl rfl rfl rfl ?_
        refine SXL.nil ?_
        refine thenQ.normal ?_
        refine SX.seq ?_
        refine SX.region ?_
        refine SXL.fieldAddr fp_73_3 rfl ?_
        refine SXL.load1o 9 sh_33 rfl rfl rfl ?_
        refine SXL.len is_33 rfl ?_
        refine SXL.move rfl ?_
        refine SXL.nil ?_
        refine thenQ.normal ?_
        refine SX.block ?_
        refine SX.loopW (α := Nat × List (Int × Nat) × Nat) [0, 1, 3, 4, 5, 16, 17, 23, 24, 25, 42, 43] rfl (fun ⟨j, ks2, cl2⟩ => [(44, .int .i64 ((j : Int)))]) (fun ⟨j, ks2, cl2⟩ => [(b0, .cells ⟨suW u fo so fc sc W (.slice no nn nc)⟩ 78 (0, 0)), (b1, .cells ⟨[.slice lo L.length lc]⟩ 33 (0, 0)), (b2, .cells ⟨[.bool false]⟩ 4 (0, 0)), (bi, .cells ⟨suW u fo so fc sc W (.slice no nn nc)⟩ 78 (0, 0)), (r, .deferred (some [])), (l, ob .ready), (b6, .cells ⟨[r_39.val (n + 1), .int .i64 (0)]⟩ 109 (0, 0)), (b7, .map ⟨mkMap ks2⟩ cl2), r_39.ent 3 (ints (memb b i) ++ [.int .i64 (i : Int)]), (b9, .cells ⟨srC (u.streets.getD i default) (sa i)⟩ 73 (0, 0)), (b10, .cells ⟨[.int .i64 (i : Int)]⟩ 3 (0, 0))]) (fun ⟨j, ks2, cl2⟩ => []) (fun ⟨j, ks2, cl2⟩ => j ≤ (u.streets.getD i default).draws.length ∧ ∀ id, id ∈ mkeys ks2 ↔ (id ∈ mkeys ks ∨ id ∈ (u.streets.getD i default).draws.take j)) (fun ⟨j, ks2, cl2⟩ => (u.streets.getD i default).draws.length - j) (0, ks, cl) ⟨Nat.zero_le _, fun id => by simp⟩ ⟨rfl, trivial⟩ rfl ?_
        rintro ⟨j, ks2, cl2⟩ ⟨hj, hks2⟩
        refine SX.seq ?_
        refine SX.region ?_
        refine SXL.lss rfl rfl ?_
        refine SXL.nil ?_
        refine thenQ.normal ?_
        refine SX.seq ?_
        refine SX.condP rfl (fun c45 => ?_) (fun c45 => ?_)
        · refine SX.skip ?_
          refine thenQ.normal ?_
          refine SX.seq ?_
          refine SX.block ?_
          refine SX.seq ?_
          obtain ⟨bd, od, had, hmd⟩ := oneI (hs.draws i (by omega)) (i := j) (by omega)
          refine SX.region ?_
          refine SXL.indexR el_33 rfl rfl had (by omega) ?_
          refine SXL.load1 sh_3 rfl (hmd _) ?_
          refine SXL.assign rfl ?_
          refine SXL.nil ?_
          refine thenQ.normal ?_
          refine SX.region ?_
          refine SXL.move rfl ?_
          refine SXL.move rfl ?_
          refine SXL.mapPut 7 mk_94 rfl rfl rfl rfl ?_
          refine SXL.nil ?_
          refine blockQ.normal ?_
          refine thenQ.normal ?_
          refine SX.region ?_
          refine SXL.add rfl rfl (by omega) ?_
          refine SXL.move rfl ?_
          refine SXL.nil ?_
          refine thenQ.normal ?_
          refine ⟨(j + 1, _, _), MeetsW.mkP _ ⟨rfl, trivial⟩ ⟨rfl, rfl, rfl, rfl, rfl, rfl, rfl, rfl, rfl, rfl, rfl, rfl, trivial⟩ rfl, ⟨by omega, fun id => by rw [mput_keys, hks2 id, mem_take_snoc (show j < (u.streets.getD i default).draws.length by omega)]; exact ⟨fun h => h.elim (fun h => .inr (.inr h)) (fun h => h.elim .inl (fun h => .inr (.inl h))), fun h => h.elim (fun h => .inr (.inl h)) (fun h => h.elim (fun h => .inr (.inr h)) .inl)⟩⟩, (show (u.streets.getD i default).draws.length - (j + 1) < (u.streets.getD i default).draws.length - j by omega)⟩
        · refine SX.exit ?_
          refine thenQ.exit ?_
          refine thenQ.exit ?_
          refine blockQ.exit ?_
          refine blockQ.normal ?_
          refine thenQ.normal ?_
          refine SX.region ?_
          refine SXL.add rfl rfl (by omega) ?_
          refine SXL.move rfl ?_
          refine SXL.nil ?_
          refine thenQ.normal ?_
          refine ⟨(i + 1, _, _, _, _, _), MeetsW.mkP _ ⟨rfl, trivial⟩ ⟨rfl, rfl, rfl, rfl, rfl, rfl, rfl, rfl, rfl, trivial⟩ rfl, ?_, (show u.streets.length - (i + 1) < u.streets.length - i by omega)⟩
          refine ⟨by omega, ?_⟩
          first
            | exact ⟨o_39, by rw [memb, if_pos (show hasI b i by unfold hasI; omega), ints_snoc], opens_add hks (show hasI b i by unfold hasI; omega) (fun id => by rw [hks2 id, List.take_of_length_le (by omega)])⟩
            | exact ⟨ho, by rw [memb, if_neg (show ¬hasI b i by unfold hasI; omega)], opens_same hks (show ¬hasI b i by unfold hasI; omega)⟩
    · refine SX.exit ?_
      refine thenQ.exit ?_
      refine thenQ.exit ?_
      refine blockQ.exit ?_
      refine thenQ.normal ?_
      refine SX.seq ?_
      refine SX.seq ?_
      obtain rfl : i = u.streets.length := by omega
      refine SX.region ?_
      refine SXL.fieldAddr fp_78_0 rfl ?_
      refine SXL.fieldAddr fp_25_0 rfl ?_
      refine SXL.load1o 3 sh_22 rfl rfl rfl ?_
      refine SXL.len is_22 rfl ?_
      refine SXL.move rfl ?_
      refine SXL.nil ?_
      refine thenQ.normal ?_
      refine SX.block ?_
      refine SX.loopW (α := Nat × Int) [0, 1, 4, 5, 16, 17, 54, 55] rfl (fun ⟨k, th⟩ => [(56, .int .i64 ((k : Int)))]) (fun ⟨k, th⟩ => [(b0, .cells ⟨suW u fo so fc sc W (.slice no nn nc)⟩ 78 (0, 0)), (b1, .cells ⟨[.slice lo L.length lc]⟩ 33 (0, 0)), (b2, .cells ⟨[.bool false]⟩ 4 (0, 0)), (bi, .cells ⟨suW u fo so fc sc W (.slice no nn nc)⟩ 78 (0, 0)), (r, .deferred (some [])), (l, ob .ready), (b6, .cells ⟨[q.val n, .int .i64 (th)]⟩ 109 (0, 0)), (b7, .map ⟨mkMap ks⟩ cl), q.ent 3 (ints (memb b u.streets.length))]) (fun ⟨k, th⟩ => []) (fun ⟨k, th⟩ => k ≤ u.founts.length ∧ th = thrTo u b W k) (fun ⟨k, th⟩ => u.founts.length - k) (0, 0) ⟨Nat.zero_le _, rfl⟩ ⟨rfl, trivial⟩ rfl ?_
      rintro ⟨k, th⟩ ⟨hk, rfl⟩
      have hth := thrTo_in (u := u) (b := b) hWs k
      have hwk := hWs k
      refine SX.seq ?_
      refine SX.region ?_
      refine SXL.lss rfl rfl ?_
      refine SXL.nil ?_
      refine thenQ.normal ?_
      refine SX.seq ?_
      refine SX.condP rfl (fun c57 => ?_) (fun c57 => ?_)
      · refine SX.skip ?_
        refine thenQ.normal ?_
        refine SX.seq ?_
        refine SX.block ?_
        refine SX.seq ?_
        obtain ⟨bf, of, haf, hmf⟩ := hs.fount (i := k) (by omega)
        refine SX.region ?_
        refine SXL.move rfl ?_
        refine SXL.indexR el_22 rfl rfl haf (by omega) ?_
        refine SXL.loadN sh_70 rfl (hmf _) rfl ?_
        refine SXL.alloc zp_70 ?_; intro b9
        refine SXL.assign rfl ?_
        refine SXL.store 9 sz_70 rfl rfl rfl rfl rfl rfl ?_
        refine SXL.nil ?_
        refine thenQ.normal ?_
        refine SX.seq ?_
        refine SX.region ?_
        refine SXL.move rfl ?_
        refine SXL.fieldAddr fp_70_0 rfl ?_
        refine SXL.load1o 9 sh_3 rfl rfl rfl ?_
        refine SXL.mapGet 7 mk_94 rfl rfl rfl ?_
        refine SXL.nil ?_
        refine thenQ.normal ?_
        refine SX.condP rfl (fun c64 => ?_) (fun c64 => ?_)
        · refine SX.draw 8 (by kernel_rfl) (by kernel_rfl) {} ?_
          refine SXA.take 0 8 rfl (by kernel_rfl) rfl ?_
          refine SXL.fieldAddr fp_109_1 rfl ?_
          refine SXL.load1o 6 sh_3 rfl rfl rfl ?_
          refine SXL.move rfl ?_
          refine SXL.fieldAddr fp_78_1 rfl ?_
          refine SXL.indexA el_76 rfl rfl (by omega) ?_
          refine SXL.load1o 3 sh_3 rfl rfl (welC_at (i := k) (by simp) (by omega)) ?_
          refine SXL.add rfl rfl (by omega) ?_
          refine SXL.fieldAddr fp_109_1 rfl ?_
          refine SXL.nil ⟨rfl, rfl, rfl, ?_⟩
          refine SXA.done (by kernel_rfl) ?_
          refine SXL.store 6 sz_3 rfl rfl rfl rfl rfl rfl ?_
          refine SXL.nil ?_
          refine blockQ.normal ?_
          refine thenQ.normal ?_
          refine SX.region ?_
          refine SXL.add rfl rfl (by omega) ?_
          refine SXL.move rfl ?_
          refine SXL.nil ?_
          refine thenQ.normal ?_
          refine ⟨(k + 1, _), MeetsW.mkP _ ⟨rfl, trivial⟩ ⟨rfl, rfl, rfl, rfl, rfl, rfl, rfl, rfl, trivial⟩ rfl, ⟨by omega, ?_⟩, (show u.founts.length - (k + 1) < u.founts.length - k by omega)⟩
          first
            | (rw [thrTo, if_pos ((hks _).1 c64)])
            | (rw [thrTo, if_neg (fun h => c64 ((hks _).2 h))])
        · refine SX.skip ?_
          refine blockQ.normal ?_
          refine thenQ.normal ?_
          refine SX.region ?_
          refine SXL.add rfl rfl (by omega) ?_
          refine SXL.move rfl ?_
          refine SXL.nil ?_
          refine thenQ.normal ?_
          refine ⟨(k + 1, _), MeetsW.mkP _ ⟨rfl, trivial⟩ ⟨rfl, rfl, rfl, rfl, rfl, rfl, rfl, rfl, trivial⟩ rfl, ⟨by omega, ?_⟩, (show u.founts.length - (k + 1) < u.founts.length - k by omega)⟩
          first
            | (rw [thrTo, if_pos ((hks _).1 c64)])
            | (rw [thrTo, if_neg (fun h => c64 ((hks _).2 h))])
      · refine SX.exit ?_
        refine thenQ.exit ?_
        refine thenQ.exit ?_
        refine blockQ.exit ?_
        refine thenQ.normal ?_
        refine SX.seq ?_
        obtain rfl : k = u.founts.length := by omega
        refine SX.region ?_
        refine SXL.move rfl ?_
        refine SXL.loadNo 6 sh_109 rfl rfl rfl ?_
        refine SXL.yieldX hT hob hoj 5 rfl rfl rfl rfl rfl ?_
        have hn := Ok.n ho
        subst hn
        have hsb := sumB_memb (u := u) (b := b) hLn
        refine SX.region ?_
        refine SXL.alloc zp_109 ?_; intro b9
        refine SXL.store 9 sz_109 rfl rfl rfl rfl rfl rfl ?_
        refine SXL.nil ?_
        refine ⟨rfl, ?_⟩
        refine SX.block ?_
        refine SX.seq ?_
        refine SX.draw 6 (by kernel_rfl) (by kernel_rfl) {} ?_
        refine SXA.take 0 6 rfl (by kernel_rfl) rfl ?_
        refine SXL.loadNo 9 sh_109 rfl rfl rfl ?_
        refine SXL.load1o 1 sh_33 rfl rfl rfl ?_
        refine SXL.call1 (.int .i64 (sumIx (memb b u.streets.length) L (memb b u.streets.length).length)) fn_68 rfl (fun w hI => of_any (memb b u.streets.length) L (thrTo u b W u.founts.length) q.addr lo q.cap lc (by have := memb_len b u.streets.length; omega) (fun x hx => by have := memb_in b _ x hx; omega) hLs w (slOnes hI ho (i := 8) rfl) (hlo.inv hI)) ?_
        refine SXL.fieldAddr fp_109_1 rfl ?_
        refine SXL.load1o 9 sh_3 rfl rfl rfl ?_
        refine SXL.gtr rfl rfl ?_
        refine SXL.nil ⟨rfl, rfl, rfl, ?_⟩
        refine SXA.done (by kernel_rfl) ?_
        refine SXL.nil ?_
        refine thenQ.normal ?_
        refine SX.condP rfl (fun c14 => ?_) (fun c14 => ?_)
        · refine SX.seq ?_
          refine SX.region ?_
          refine SXL.store 2 sz_4 rfl rfl rfl rfl rfl rfl ?_
          refine SXL.nil ?_
          refine thenQ.normal ?_
          refine SX.ret ?_
          refine blockQ.ret ?_
          refine ⟨rfl, ?_⟩
          refine SXL.not rfl ?_
          refine SXL.nil ?_
          refine thenQ.normal ?_
          refine SX.condP rfl (fun c77 => ?_) (fun c77 => ?_)
          rotate_left
          · exfalso; exact c77 (fun h => h)
          refine SX.ret ?_
          refine blockQ.ret ?_
          refine thenQ.ret ?_
          refine thenQ.ret ?_
          refine blockQ.ret ?_
          refine retQ.zero ?_
          refine Or.inr ⟨5, rfl, ?_⟩
          refine blockQ.ret ?_
          refine thenQ.ret ?_
          refine retQ.unmark 4 rfl ?_
          refine retQ.one (ResAt.cell1o 2 sh_4 rfl rfl rfl) ?_
          exact congrArg Value.bool (decide_eq_false (by intro h; have h1 := h b (by rw [hLn]; omega); rw [hsb] at c14; unfold thr at h1; omega)).symm
        · refine SX.skip ?_
          refine blockQ.normal ?_
          refine ⟨rfl, ?_⟩
          refine SXL.not rfl ?_
          refine SXL.nil ?_
          refine thenQ.normal ?_
          refine SX.condP rfl (fun c77 => ?_) (fun c77 => ?_)
          · exfalso; exact c77 trivial
          refine SX.skip ?_
          refine blockQ.normal ?_
          refine thenQ.normal ?_
          refine SX.region ?_
          refine SXL.add rfl rfl (by omega) ?_
          refine SXL.move rfl ?_
          refine SXL.nil ?_
          refine thenQ.normal ?_
          refine ⟨(b + 1, ()), MeetsW.mkP _ ⟨rfl, trivial⟩ ⟨rfl, rfl, rfl, trivial⟩ rfl, ⟨by omega, fun d hd => by
            by_cases e : d = b
            · subst e; rw [sumB_memb hLn] at c14; unfold thr; omega
            · exact hC d (by omega)⟩, (show 2 ^ u.streets.length - (b + 1) < 2 ^ u.streets.length - b by omega)⟩
  · refine SX.exit ?_
    refine thenQ.exit ?_
    refine thenQ.exit ?_
    refine blockQ.exit ?_
    refine retQ.zeroN ?_
    refine Or.inl ⟨5, rfl, ?_⟩
    refine blockQ.normal ?_
    refine thenQ.normal ?_
    refine SX.seq ?_
    refine SX.region ?_
    refine SXL.store 2 sz_4 rfl rfl rfl rfl rfl rfl ?_
    refine SXL.nil ?_
    refine thenQ.normal ?_
    refine SX.ret ?_
    refine retQ.unmark 4 rfl ?_
    refine retQ.one (ResAt.cell1o 2 sh_4 rfl rfl rfl) ?_
    exact congrArg Value.bool (decide_eq_true ((canP_iff hLn).2 fun d hd => hC d (by omega))).symm
end Go.Proofs.YtolcicaclflagaaDoor

/- What is known; the first week without. Nothing of Go stands here. -/
namespace Go.T
open Go.S Go.X
/-- What is known of something that is so at worst, and at best. -/
def knT (e : Int) (pw pb : Prop) [Decidable pw] [Decidable pb] : Int := if e ≠ 0 then 0 else if pw then 2 else if pb then 1 else 0
/-- There is enough in a week. -/
def EnoP (u : Su) (week : Int) (best : Bool) : Prop := CanP u (waterL u week best) (needs u best)
instance (u : Su) (week : Int) (best : Bool) : Decidable (EnoP u week best) := by unfold EnoP; infer_instance
/-- Each can have its least. -/
def LeaP (u : Su) (week : Int) (best : Bool) : Prop := CanP u (waterL u week best) (leasts u)
instance (u : Su) (week : Int) (best : Bool) : Decidable (LeaP u week best) := by unfold LeaP; infer_instance
/-- The first week in which there is not enough, -1 if there is none. -/
def wiI (u : Su) (best : Bool) : Int := idxF (fun i => ¬EnoP u (i : Int) best) (Go.T.long u).toNat
def wiE (u : Su) (best : Bool) : Int := if ¬SuP u then 90 else if ¬TrueS u then 8 else if wiI u best < 0 then 6 else 0
def wiV (u : Su) (best : Bool) : Int := if wiE u best = 0 then wiI u best else 0
theorem canP_pad {u : Su} {l m : List Int} : CanP u (pad4 l) m ↔ CanP u l m := CanP.congr (pad4_at l)
theorem needs_sm {u : Su} (h : SuP u) (best : Bool) : Sm (needs u best) := Sm.of (needs_in h best)
theorem leasts_sm {u : Su} (h : SuP u) : Sm (leasts u) := Sm.of (leasts_in h)
theorem water_sm {u : Su} (h : SuP u) (ht : TrueS u) {week : Int} (hw : Wi week 0 (Go.T.long u - 1)) (best : Bool) : Sm (waterL u week best) := Sm.of (water_in h ht hw best)
theorem pad_sm {l : List Int} (h : Sm l) : Sm (pad4 l) := fun k => by rw [pad4_at]; exact h k
end Go.T
