/- The walks of functions. -/
import Derived.Test.YtknflipongbngaaDoorFacts
import Derived.Test.YtknflipongbngaaDoorD2
import Derived.Test.YtknflipongbngaaDoorR2
namespace Go.Proofs.YtknflipongbngaaDoor
open Go.X Go.S
theorem rained_any (s : Sp) (bo ro : Option Addr) (bc rc : Nat) (L : List Int) (hL : Bd L) (hv : SpP s) (w : World) (hs : SpAt w s bo ro) :
    CallsR Tryd.prog 129 [.agg ⟨[.int .i64 s.weeks, .int .i64 s.most, .int .i64 s.fall, .int .i64 s.a0, .int .i64 s.a1, .int .i64 s.w0, .int .i64 s.w1, (.slice bo s.book.length bc), (.slice ro s.reads.length rc)]⟩, .agg ⟨ints L⟩] w (RnR (rnsL s L) (lvsL s L (rnsL s L))) := by
  have hH := hv.1
  unfold HeadP at hH
  refine CallsR.of_SX (n := 39) (rs := [.tmp 4, .tmp 5]) Tryd.func129 rfl rfl rfl rfl ?_
  show SX _ _ _ ⟨[(0, .agg ⟨[.int .i64 s.weeks, .int .i64 s.most, .int .i64 s.fall, .int .i64 s.a0, .int .i64 s.a1, .int .i64 s.w0, .int .i64 s.w1, (.slice bo s.book.length bc), (.slice ro s.reads.length rc)]⟩), (1, .agg ⟨ints L⟩)], [], []⟩
  refine SX.seq ?_
  refine SX.region ?_
  refine SXL.box rfl rfl ?_; intro b0
  refine SXL.box rfl rfl ?_; intro b1
  refine SXL.assign rfl ?_
  refine SXL.assign rfl ?_
  refine SXL.nil ?_
  refine thenQ.normal ?_
  refine SX.seq ?_
  refine SX.region ?_
  refine SXL.assign rfl ?_
  refine SXL.nil ?_
  refine thenQ.normal ?_
  refine SX.seq ?_
  refine SX.region ?_
  refine SXL.assign rfl ?_
  refine SXL.nil ?_
  refine thenQ.normal ?_
  refine SX.seq ?_
  refine SX.seq ?_
  refine SX.pad (Sl.nil.ent 3 []) rfl ?_
  refine SX.pad (Sl.nil.ent 156 []) rfl ?_
  refine SX.region ?_
  refine SXL.fieldAddr fp_27_4 rfl ?_
  refine SXL.fieldAddr fp_23_0 rfl ?_
  refine SXL.load1o 0 sh_3 rfl rfl rfl ?_
  refine SXL.assign rfl ?_
  refine SXL.nil ?_
  refine thenQ.normal ?_
  refine SX.block ?_
  refine SX.loopG (α := Nat × Sl × Sl × Nat × Nat × List Value × List Value) [2, 3, 4, 5] rfl (fun ⟨k, r1, r2, n1, n2, c1, c2⟩ => [(8, .int .i64 (s.w0 + (k : Int))), (6, r1.val n1), (7, r2.val n2)]) (fun ⟨k, r1, r2, n1, n2, c1, c2⟩ => [(2, r1.ent 3 c1), (3, r2.ent 156 c2)]) (fun ⟨k, r1, r2, n1, n2, c1, c2⟩ => k ≤ rnN s ∧ r1.Ok n1 1 c1 ∧ c1 = ints (rnsTo s L k) ∧ r2.Ok n2 20 c2 ∧ c2 = (rowsI (lvsL s L (rnsTo s L k))).flatten ∧ n2 = n1) (fun ⟨k, r1, r2, n1, n2, c1, c2⟩ => rnN s - k) (0, Sl.nil, Sl.nil, 0, 0, [], []) ⟨Nat.zero_le _, .none _, rfl, .none _, rfl, rfl⟩ ⟨congrArg (fun z => some (Value.int .i64 z)) (show s.w0 = s.w0 + ((0 : Nat) : Int) by omega), rfl, rfl, trivial⟩ rfl ?_
  rintro ⟨k, r1, r2, n1, n2, c1, c2⟩ ⟨hk, ho1, rfl, ho2, rfl, rfl⟩
  have hlen := rnsTo_len s L k
  have hn1 := Ok.n ho1
  have hN : rnN s = (s.w1 + 1 - s.w0).toNat := rfl
  have hLv := Bd.lv hL hv (s.w0 + (k : Int))
  refine SX.seq ?_
  refine SX.seq ?_
  refine SX.region ?_
  refine SXL.move rfl ?_
  refine SXL.fieldAddr fp_27_4 rfl ?_
  refine SXL.fieldAddr fp_23_1 rfl ?_
  refine SXL.load1o 0 sh_3 rfl rfl rfl ?_
  refine SXL.leq rfl rfl ?_
  refine SXL.nil ?_
  refine thenQ.normal ?_
  refine SX.condP rfl (fun c18 => ?_) (fun c18 => ?_)
  · refine SX.skip ?_
    refine thenQ.normal ?_
    refine SX.seq ?_
    refine SX.block ?_
    refine SX.seq ?_
    refine SX.region ?_
    refine SXL.loadNo 0 sh_27 rfl rfl rfl ?_
    refine SXL.loadNo 1 sh_156 rfl rfl (takeAt_full (by simp only [length_ints, hL.len])) ?_
    refine SXL.move rfl ?_
    refine SXL.call1 (.tuple ⟨[.agg ⟨ints (lvL s L (s.w0 + (k : Int)))⟩, .bool (decide (lvB s L (s.w0 + (k : Int))))]⟩) fn_133 rfl (fun w hI => leaves_any s bo ro _ _ L hL _ hv _ (hs.inv hI)) ?_
    refine SXL.move rfl ?_
    refine SXL.extract rfl rfl ?_
    refine SXL.extract rfl rfl ?_
    refine SXL.alloc zp_156 ?_; intro b4
    refine SXL.store 4 sz_156 rfl rfl rfl rfl (by simp only [length_ints, hLv.len]) (putAt_all _ _ (by simp only [length_ints, hLv.len]; rfl)) ?_ (ints_isOne _)
    refine SXL.assign rfl ?_
    refine SXL.nil ?_
    refine thenQ.normal ?_
    refine SX.seq ?_
    refine SX.region ?_
    refine SXL.move rfl ?_
    refine SXL.nil ?_
    refine thenQ.normal ?_
    refine SX.condP rfl (fun c28 => ?_) (fun c28 => ?_)
    · refine SX.draw 10 (by kernel_rfl) (by kernel_rfl) ⟨[0, 1, 2, 4, 5, 6, 7, 8, 9], [true, true, false, false]⟩ ?_
      refine SXA.takeM 0 2 rfl (by kernel_rfl) rfl ?_
      refine SXL.move rfl ?_
      refine SXL.move rfl ?_
      refine SXL.nil ⟨rfl, rfl, rfl, ?_⟩
      refine SXA.takeM 4 2 rfl (by kernel_rfl) rfl ?_
      refine SXL.move rfl ?_
      refine SXL.loadNo 2 sh_156 rfl rfl (takeAt_full (by simp only [length_ints, hLv.len])) ?_
      refine SXL.nil ⟨rfl, rfl, rfl, ?_⟩
      refine SXA.all [2, 6] (by kernel_rfl) rfl ⟨⟨?_, rfl⟩, ⟨?_, rfl⟩, trivial⟩
      · refine (show SXL _ _ [_] _ _ from ?_)
        refine SXL.buildSlice et_35 zp_3 rfl rfl rfl rfl ?_; intro b5
        refine SXL.nil (stepQ.mk _ rfl rfl ?_)
        refine SXA.all [3, 6] (by kernel_rfl) rfl ⟨⟨?_, rfl⟩, ⟨?_, rfl⟩, trivial⟩
        · refine (show SXL _ _ [_] _ _ from ?_)
          refine SXL.append 2 ap_35 rfl rfl ho1 rfl (.inr ⟨_, _, rfl, Mem.own (i := 5) rfl (takeAt_all _)⟩) rfl rfl ⟨by simp only [maxLen]; omega, by omega⟩ ?_; intro r_32 o_32
          refine SXL.nil (stepQ.mkL _ (by kernel_rfl) rfl rfl ?_)
          refine SXA.all [6] (by kernel_rfl) rfl ⟨⟨?_, rfl⟩, trivial⟩
          refine (show SXL _ _ [_] _ _ from ?_)
          refine SXL.buildSlice et_125 zp_156 rfl rfl rfl (bld_one rfl (by simp only [length_ints, hLv.len])) ?_; intro b6
          refine SXL.nil (stepQ.mk _ rfl rfl ?_)
          refine SXA.all [7] (by kernel_rfl) rfl ⟨⟨?_, rfl⟩, trivial⟩
          refine (show SXL _ _ [_] _ _ from ?_)
          refine SXL.append 3 ap_125 rfl rfl ho2 rfl (.inr ⟨_, _, rfl, Mem.own (i := 6) rfl (takeAt_all _)⟩) (by simp only [length_ints, hLv.len]) (ints_isOne _) ⟨by simp only [maxLen]; omega, by omega⟩ ?_; intro r_36 o_36
          refine SXL.nil (stepQ.mkL _ (by kernel_rfl) rfl rfl ?_)
          refine SXA.takeM 8 2 rfl (by kernel_rfl) rfl ?_
          refine SXL.assign rfl ?_
          refine SXL.assign rfl ?_
          refine SXL.nil ⟨rfl, rfl, rfl, ?_⟩
          refine SXA.done (by kernel_rfl) ?_
          refine SXL.nil ?_
          refine blockQ.normal ?_
          refine thenQ.normal ?_
          refine SX.region ?_
          refine SXL.move rfl ?_
          refine SXL.add rfl rfl (by omega) ?_
          refine SXL.assign rfl ?_
          refine SXL.nil ?_
          refine thenQ.normal ?_
          refine ⟨(k + 1, _, _, _, _, _, _), Meets.mk _ ⟨congrArg (fun z => some (Value.int .i64 z)) (show s.w0 + (k : Int) + 1 = s.w0 + ((k + 1 : Nat) : Int) by omega), rfl, rfl, trivial⟩ ⟨rfl, rfl, rfl, rfl, trivial⟩ rfl, ?_, ?_⟩
          · refine ⟨by omega, ?_⟩
            first
              | exact ⟨o_32, by rw [rnsTo_yes c28]; simp [ints_snoc], o_36, by rw [rnsTo_yes c28]; simp [rowsI, lvsL], rfl⟩
              | exact ⟨ho1, by rw [rnsTo_no c28], ho2, by rw [rnsTo_no c28], rfl⟩
          · show rnN s - (k + 1) < rnN s - k; omega
        · refine (show SXL _ _ [_] _ _ from ?_)
          refine SXL.buildSlice et_125 zp_156 rfl rfl rfl (bld_one rfl (by simp only [length_ints, hLv.len])) ?_; intro b6
          refine SXL.nil (stepQ.mk _ rfl rfl ?_)
          refine SXA.all [3] (by kernel_rfl) rfl ⟨⟨?_, rfl⟩, trivial⟩
          refine (show SXL _ _ [_] _ _ from ?_)
          refine SXL.append 2 ap_35 rfl rfl ho1 rfl (.inr ⟨_, _, rfl, Mem.own (i := 5) rfl (takeAt_all _)⟩) rfl rfl ⟨by simp only [maxLen]; omega, by omega⟩ ?_; intro r_32 o_32
          refine SXL.nil (stepQ.mkL _ (by kernel_rfl) rfl rfl ?_)
          refine SXA.all [7] (by kernel_rfl) rfl ⟨⟨?_, rfl⟩, trivial⟩
          refine (show SXL _ _ [_] _ _ from ?_)
          refine SXL.append 3 ap_125 rfl rfl ho2 rfl (.inr ⟨_, _, rfl, Mem.own (i := 6) rfl (takeAt_all _)⟩) (by simp only [length_ints, hLv.len]) (ints_isOne _) ⟨by simp only [maxLen]; omega, by omega⟩ ?_; intro r_36 o_36
          refine SXL.nil (stepQ.mkL _ (by kernel_rfl) rfl rfl ?_)
          refine SXA.takeM 8 2 rfl (by kernel_rfl) rfl ?_
          refine SXL.assign rfl ?_
          refine SXL.assign rfl ?_
          refine SXL.nil ⟨rfl, rfl, rfl, ?_⟩
          refine SXA.done (by kernel_rfl) ?_
          refine SXL.nil ?_
          refine blockQ.normal ?_
          refine thenQ.normal ?_
          refine SX.region ?_
          refine SXL.move rfl ?_
          refine SXL.add rfl rfl (by omega) ?_
          refine SXL.assign rfl ?_
          refine SXL.nil ?_
          refine thenQ.normal ?_
          refine ⟨(k + 1, _, _, _, _, _, _), Meets.mk _ ⟨congrArg (fun z => some (Value.int .i64 z)) (show s.w0 + (k : Int) + 1 = s.w0 + ((k + 1 : Nat) : Int) by omega), rfl, rfl, trivial⟩ ⟨rfl, rfl, rfl, rfl, trivial⟩ rfl, ?_, ?_⟩
          · refine ⟨by omega, ?_⟩
            first
              | exact ⟨o_32, by rw [rnsTo_yes c28]; simp [ints_snoc], o_36, by rw [rnsTo_yes c28]; simp [rowsI, lvsL], rfl⟩
              | exact ⟨ho1, by rw [rnsTo_no c28], ho2, by rw [rnsTo_no c28], rfl⟩
          · show rnN s - (k + 1) < rnN s - k; omega
      · refine (show SXL _ _ [_] _ _ from ?_)
        refine SXL.buildSlice et_125 zp_156 rfl rfl rfl (bld_one rfl (by simp only [length_ints, hLv.len])) ?_; intro b5
        refine SXL.nil (stepQ.mk _ rfl rfl ?_)
        refine SXA.all [2] (by kernel_rfl) rfl ⟨⟨?_, rfl⟩, trivial⟩
        refine (show SXL _ _ [_] _ _ from ?_)
        refine SXL.buildSlice et_35 zp_3 rfl rfl rfl rfl ?_; intro b6
        refine SXL.nil (stepQ.mk _ rfl rfl ?_)
        refine SXA.all [3] (by kernel_rfl) rfl ⟨⟨?_, rfl⟩, trivial⟩
        refine (show SXL _ _ [_] _ _ from ?_)
        refine SXL.append 2 ap_35 rfl rfl ho1 rfl (.inr ⟨_, _, rfl, Mem.own (i := 6) rfl (takeAt_all _)⟩) rfl rfl ⟨by simp only [maxLen]; omega, by omega⟩ ?_; intro r_32 o_32
        refine SXL.nil (stepQ.mkL _ (by kernel_rfl) rfl rfl ?_)
        refine SXA.all [7] (by kernel_rfl) rfl ⟨⟨?_, rfl⟩, trivial⟩
        refine (show SXL _ _ [_] _ _ from ?_)
        refine SXL.append 3 ap_125 rfl rfl ho2 rfl (.inr ⟨_, _, rfl, Mem.own (i := 5) rfl (takeAt_all _)⟩) (by simp only [length_ints, hLv.len]) (ints_isOne _) ⟨by simp only [maxLen]; omega, by omega⟩ ?_; intro r_36 o_36
        refine SXL.nil (stepQ.mkL _ (by kernel_rfl) rfl rfl ?_)
        refine SXA.takeM 8 2 rfl (by kernel_rfl) rfl ?_
        refine SXL.assign rfl ?_
        refine SXL.assign rfl ?_
        refine SXL.nil ⟨rfl, rfl, rfl, ?_⟩
        refine SXA.done (by kernel_rfl) ?_
        refine SXL.nil ?_
        refine blockQ.normal ?_
        refine thenQ.normal ?_
        refine SX.region ?_
        refine SXL.move rfl ?_
        refine SXL.add rfl rfl (by omega) ?_
        refine SXL.assign rfl ?_
        refine SXL.nil ?_
        refine thenQ.normal ?_
        refine ⟨(k + 1, _, _, _, _, _, _), Meets.mk _ ⟨congrArg (fun z => some (Value.int .i64 z)) (show s.w0 + (k : Int) + 1 = s.w0 + ((k + 1 : Nat) : Int) by omega), rfl, rfl, trivial⟩ ⟨rfl, rfl, rfl, rfl, trivial⟩ rfl, ?_, ?_⟩
        · refine ⟨by omega, ?_⟩
          first
            | exact ⟨o_32, by rw [rnsTo_yes c28]; simp [ints_snoc], o_36, by rw [rnsTo_yes c28]; simp [rowsI, lvsL], rfl⟩
            | exact ⟨ho1, by rw [rnsTo_no c28], ho2, by rw [rnsTo_no c28], rfl⟩
        · show rnN s - (k + 1) < rnN s - k; omega
    · refine SX.skip ?_
      refine blockQ.normal ?_
      refine thenQ.normal ?_
      refine SX.region ?_
      refine SXL.move rfl ?_
      refine SXL.add rfl rfl (by omega) ?_
      refine SXL.assign rfl ?_
      refine SXL.nil ?_
      refine thenQ.normal ?_
      refine ⟨(k + 1, _, _, _, _, _, _), Meets.mk _ ⟨congrArg (fun z => some (Value.int .i64 z)) (show s.w0 + (k : Int) + 1 = s.w0 + ((k + 1 : Nat) : Int) by omega), rfl, rfl, trivial⟩ ⟨rfl, rfl, rfl, rfl, trivial⟩ rfl, ?_, ?_⟩
      · refine ⟨by omega, ?_⟩
        first
          | exact ⟨o_32, by rw [rnsTo_yes c28]; simp [ints_snoc], o_36, by rw [rnsTo_yes c28]; simp [rowsI, lvsL], rfl⟩
          | exact ⟨ho1, by rw [rnsTo_no c28], ho2, by rw [rnsTo_no c28], rfl⟩
      · show rnN s - (k + 1) < rnN s - k; omega
  · refine SX.exit ?_
    refine thenQ.exit ?_
    refine thenQ.exit ?_
    refine blockQ.exit ?_
    refine thenQ.normal ?_
    refine SX.seq ?_
    have hkN : k = rnN s := by omega
    subst hkN
    refine SX.region ?_
    refine SXL.move rfl ?_
    refine SXL.move rfl ?_
    refine SXL.assign rfl ?_
    refine SXL.assign rfl ?_
    refine SXL.nil ?_
    refine thenQ.normal ?_
    refine SX.ret ?_
    refine retQ.sel [2, 3] rfl rfl ?_
    refine retQ.two (ResAt.tmp rfl) (ResAt.tmp rfl) ?_
    refine ⟨r1, r2, ?_⟩; have e2 := Ok.n ho1; subst e2; exact ⟨ho1, by simpa [lvsL, rnsL] using ho2, by simp [lvsL, rnsL], rfl⟩
end Go.Proofs.YtknflipongbngaaDoor
