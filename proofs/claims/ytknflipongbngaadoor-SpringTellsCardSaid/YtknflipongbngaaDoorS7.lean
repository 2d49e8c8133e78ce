/- The walks of functions. -/
import Derived.Test.YtknflipongbngaaDoorFacts
import Derived.Test.YtknflipongbngaaDoorS6
import Derived.Test.YtknflipongbngaaDoorD6
namespace Go.Proofs.YtknflipongbngaaDoor
open Go.X Go.S Go.RowKit
theorem askT (s : Sp) : askE s True 0 = toldE s 0 := by
  rw [show askE s True 0 = askE s True 11 from by simp [askE]]
  refine askE_told (week := 0) fun hv => ?_
  have hH := hv.1
  unfold HeadP at hH
  exact ⟨fun _ => ⟨by omega, by omega⟩, fun _ => trivial⟩
theorem IsR2.errs {s : Sp} {e : Int} (h : toldE s 0 = e) (he : e ≠ 0) : IsR2 (toldL s 0) (toldE s 0) (.tuple ⟨[.slice none 0 0, .int .i64 e]⟩) [Sl.nil.ent 3 []] := by
  have hl := toldL_bad h he
  refine ⟨Sl.nil, ?_, ?_, ?_⟩ <;> simp only [hl, h]
  · exact .none _
  · rfl
  · rfl
set_option maxHeartbeats 4000000 in
theorem srains_any (s : Sp) (bo ro : Option Addr) (bc rc : Nat) (hb : s.book.length ≤ 1000000) (hr : s.reads.length ≤ 1000000) (w : World) (hg : Gl w) (hs : SpAt w s bo ro) :
    CallsR Tryd.prog 20 [.agg ⟨[.int .i64 s.weeks, .int .i64 s.most, .int .i64 s.fall, .int .i64 s.a0, .int .i64 s.a1, .int .i64 s.w0, .int .i64 s.w1, (.slice bo s.book.length bc), (.slice ro s.reads.length rc)]⟩] w (IsR2 (toldL s 0) (toldE s 0)) := by
  refine CallsR.of_SX (n := 27) (rs := [.tmp 2, .tmp 3]) Tryd.func20 rfl rfl rfl rfl ?_
  show SX _ _ _ ⟨[(0, .agg ⟨[.int .i64 s.weeks, .int .i64 s.most, .int .i64 s.fall, .int .i64 s.a0, .int .i64 s.a1, .int .i64 s.w0, .int .i64 s.w1, (.slice bo s.book.length bc), (.slice ro s.reads.length rc)]⟩)], [], []⟩
  refine SX.seq ?_
  refine SX.region ?_
  refine SXL.box rfl rfl ?_; intro b0
  refine SXL.assign rfl ?_
  refine SXL.assign rfl ?_
  refine SXL.nil ?_
  refine thenQ.normal ?_
  refine SX.seq ?_
  refine SX.region ?_
  refine SXL.loadNo 0 sh_27 rfl rfl rfl ?_
  refine SXL.callP (AskR s bo ro bc rc (True) 0) fn_75 rfl (fun w hI => asked_any s bo ro bc rc (True) 0 hb hr w (hg.inv hI) (hs.inv hI)) ?_; rintro _ ⟨W, O, hW1, hW2, hO, rfl, hok⟩
  refine SXL.move rfl ?_
  refine SXL.extract rfl rfl ?_
  refine SXL.extract rfl rfl ?_
  refine SXL.extract rfl rfl ?_
  refine SXL.alloc zp_117 ?_; intro b1
  refine SXL.alloc zp_114 ?_; intro b2
  refine SXL.store 1 sz_117 rfl rfl rfl rfl hW1 (putAt_all _ _ (by simp [hW1])) ?_ hW2
  refine SXL.store 2 sz_114 rfl rfl rfl rfl (by simp [hO]) (putAt_all _ _ (by simp [hO])) ?_ (ints_isOne _)
  refine SXL.assign rfl ?_
  refine SXL.nil ?_
  refine thenQ.normal ?_
  refine SX.seq ?_
  refine SX.seq ?_
  refine SX.region ?_
  refine SXL.move rfl ?_
  refine SXL.neqI rfl rfl ?_
  refine SXL.nil ?_
  refine thenQ.normal ?_
  refine SX.condP rfl (fun c16 => ?_) (fun c16 => ?_)
  · refine SX.seq ?_
    refine SX.region ?_
    refine SXL.move rfl ?_
    refine SXL.assign rfl ?_
    refine SXL.assign rfl ?_
    refine SXL.nil ?_
    refine thenQ.normal ?_
    refine SX.ret ?_
    refine thenQ.ret ?_
    refine retQ.dead [Sl.nil.ent 3 []] rfl ?_
    refine retQ.two (ResAt.tmp rfl) (ResAt.tmp rfl) ?_
    exact IsR2.errs (askT s).symm c16
  · refine SX.skip ?_
    refine thenQ.normal ?_
    refine SX.seq ?_
    have hc16 := Decidable.not_not.1 c16
    have hTo : toldE s 0 = 0 := (askT s).symm.trans hc16
    obtain ⟨hv, hwk, ht⟩ := toldE_valid hTo
    obtain ⟨rfl, rfl⟩ := hok hv trivial ht
    have hH := hv.1
    unfold HeadP at hH
    refine SX.region ?_
    refine SXL.alloc zp_35 ?_; intro b3
    refine SXL.nil ?_
    refine thenQ.normal ?_
    refine SX.seq ?_
    refine SX.seq ?_
    refine SX.pad (Sl.nil.ent 3 []) rfl ?_
    refine SX.region ?_
    refine SXL.loadNo 1 sh_117 rfl rfl (takeAt_full (watC_len (by simp [flL]))) ?_
    refine SXL.callF (ItR s bo ro bc rc (flL s)) fn_76 rfl (fun w hI => it_any s bo ro bc rc (flL s) (by simp [flL]) w) ?_; rintro _ _ ⟨bi, rfl, rfl⟩
    refine SXL.nil ?_
    refine thenQ.normal ?_
    refine SX.block ?_
    refine SX.rangeFunc (f := 117) (nf := 31) (rs := []) rfl fn_117 Tryd.func117 rfl rfl rfl rfl ?_
    intro fn T r l ob hT hob
    refine SX.scope ?_
    refine SX.seq ?_
    refine SX.label ?_
    refine thenQ.normal ?_
    refine SX.seq ?_
    refine SX.region ?_
    refine SXL.fieldAddr fp_117_0 rfl ?_
    refine SXL.fieldAddr fp_27_4 rfl ?_
    refine SXL.fieldAddr fp_23_0 rfl ?_
    refine SXL.load1o 5 sh_3 rfl rfl rfl ?_
    refine SXL.assign rfl ?_
    refine SXL.nil ?_
    refine thenQ.normal ?_
    refine SX.block ?_
    refine SX.loopG (α := Nat × Sl × Nat × List Value) [0, 1] rfl (fun ⟨k, r1, n1, c1⟩ => [(3, .int .i64 (s.w0 + (k : Int)))]) (fun ⟨k, r1, n1, c1⟩ => [(3, (b3, .cells ⟨[r1.val n1]⟩ 35 (0, 0))), (4, r1.ent 3 c1)]) (fun ⟨k, r1, n1, c1⟩ => k ≤ rnN s ∧ r1.Ok n1 1 c1 ∧ c1 = ints (rnsTo s (baseL s) k)) (fun ⟨k, r1, n1, c1⟩ => (rnN s - k)) (0, Sl.nil, 0, []) ⟨Nat.zero_le _, .none _, rfl⟩ ⟨congrArg (fun z => some (Value.int .i64 z)) (show s.w0 = s.w0 + ((0 : Nat) : Int) by omega), trivial⟩ rfl ?_
    rintro ⟨k, r1, n1, c1⟩ ⟨hk, ho1, rfl⟩
    have hlen := rnsTo_len s (baseL s) k
    have hn1 := Ok.n ho1
    have hN : rnN s = (s.w1 + 1 - s.w0).toNat := rfl
    refine SX.seq ?_
    refine SX.seq ?_
    refine SX.region ?_
    refine SXL.move rfl ?_
    refine SXL.fieldAddr fp_117_0 rfl ?_
    refine SXL.fieldAddr fp_27_4 rfl ?_
    refine SXL.fieldAddr fp_23_1 rfl ?_
    refine SXL.load1o 5 sh_3 rfl rfl rfl ?_
    refine SXL.leq rfl rfl ?_
    refine SXL.nil ?_
    refine thenQ.normal ?_
    refine SX.condP rfl (fun c15 => ?_) (fun c15 => ?_)
    · refine SX.skip ?_
      refine thenQ.normal ?_
      refine SX.seq ?_
      refine SX.block ?_
      refine SX.seq ?_
      refine SX.region ?_
      refine SXL.loadNo 5 sh_117 rfl rfl (takeAt_full (watC_len (by simp [flL]))) ?_
      refine SXL.move rfl ?_
      refine SXL.callP (AfterR s (baseL s) (s.w0 + (k : Int))) fn_118 rfl (fun w hI => after_any s bo ro bc rc (flL s) (baseL s) hv (relW hv) _ w (hg.inv hI) (hs.inv hI)) ?_; rintro _ ⟨X, hX1, hX2, rfl⟩
      refine SXL.move rfl ?_
      refine SXL.extract rfl rfl ?_
      refine SXL.extract rfl rfl ?_
      refine SXL.alloc zp_114 ?_; intro b8
      refine SXL.store 8 sz_114 rfl rfl rfl rfl (by simp [hX1]) (putAt_all _ _ (by simp [hX1])) ?_ (ints_isOne _)
      refine SXL.assign rfl ?_
      refine SXL.nil ?_
      refine thenQ.normal ?_
      refine SX.seq ?_
      refine SX.seq ?_
      refine SX.region ?_
      refine SXL.move rfl ?_
      refine SXL.not rfl ?_
      refine SXL.nil ?_
      refine thenQ.normal ?_
      refine SX.condP rfl (fun c25 => ?_) (fun c25 => ?_)
      · refine SX.exit ?_
        refine thenQ.exit ?_
        refine blockQ.exit ?_
        refine thenQ.normal ?_
        refine SX.region ?_
        refine SXL.move rfl ?_
        refine SXL.add rfl rfl (by omega) ?_
        refine SXL.assign rfl ?_
        refine SXL.nil ?_
        refine thenQ.normal ?_
        refine ⟨(k + 1, _, _, _), Meets.mk _ ⟨congrArg (fun z => some (Value.int .i64 z)) (show s.w0 + (k : Int) + 1 = s.w0 + ((k + 1 : Nat) : Int) by omega), trivial⟩ ⟨rfl, rfl, trivial⟩ rfl, ?_, ?_⟩
        · refine ⟨by omega, ?_⟩
          first
            | exact ⟨o_25, by rw [rnsTo_yes hlv]; simp [ints_snoc]⟩
            | exact ⟨ho1, by rw [rnsTo_no c25]⟩
        · show rnN s - (k + 1) < rnN s - k; omega
      · refine SX.skip ?_
        refine thenQ.normal ?_
        refine SX.seq ?_
        have hlv := Decidable.not_not.1 c25
        obtain rfl := hX2 hlv
        refine SX.region ?_
        refine SXL.move rfl ?_
        refine SXL.move rfl ?_
        refine SXL.loadNo 8 sh_114 rfl rfl (takeAt_full (by simp)) ?_
        refine SXL.yield hT hob 7 rfl rfl rfl rfl rfl ?_
        refine SX.region ?_
        refine SXL.assign rfl ?_
        refine SXL.nil ?_
        refine ⟨rfl, ?_⟩
        refine SX.block ?_
        refine SX.region ?_
        refine SXL.load1o 3 sh_35 rfl rfl rfl ?_
        refine SXL.move rfl ?_
        refine SXL.buildSlice et_35 zp_3 rfl rfl rfl rfl ?_; intro b9
        refine SXL.append 4 ap_35 rfl rfl ho1 rfl (.inr ⟨_, _, rfl, Mem.own (i := 9) rfl (takeAt_all _)⟩) rfl rfl ⟨by simp only [maxLen]; omega, by omega⟩ ?_; intro r_25 o_25
        refine SXL.store 3 sz_35 rfl rfl rfl rfl rfl rfl ?_
        refine SXL.nil ?_
        refine blockQ.normal ?_
        refine ⟨rfl, ?_⟩
        refine SXL.not rfl ?_
        refine SXL.nil ?_
        refine thenQ.normal ?_
        refine SX.condP rfl (fun c30 => ?_) (fun c30 => ?_)
        · exfalso; exact c30 trivial
        refine SX.skip ?_
        refine blockQ.normal ?_
        refine thenQ.normal ?_
        refine SX.region ?_
        refine SXL.move rfl ?_
        refine SXL.add rfl rfl (by omega) ?_
        refine SXL.assign rfl ?_
        refine SXL.nil ?_
        refine thenQ.normal ?_
        refine ⟨(k + 1, _, _, _), Meets.mk _ ⟨congrArg (fun z => some (Value.int .i64 z)) (show s.w0 + (k : Int) + 1 = s.w0 + ((k + 1 : Nat) : Int) by omega), trivial⟩ ⟨rfl, rfl, trivial⟩ rfl, ?_, ?_⟩
        · refine ⟨by omega, ?_⟩
          first
            | exact ⟨o_25, by rw [rnsTo_yes hlv]; simp [ints_snoc]⟩
            | exact ⟨ho1, by rw [rnsTo_no c25]⟩
        · show rnN s - (k + 1) < rnN s - k; omega
    · refine SX.exit ?_
      refine thenQ.exit ?_
      refine thenQ.exit ?_
      refine blockQ.exit ?_
      refine scopeQ.normal ?_
      refine retQ.zeroN ?_
      refine ⟨7, rfl, ?_⟩
      refine blockQ.normal ?_
      refine thenQ.normal ?_
      refine SX.seq ?_
      obtain rfl : k = rnN s := by omega
      refine SX.region ?_
      refine SXL.load1o 3 sh_35 rfl rfl rfl ?_
      refine SXL.assign rfl ?_
      refine SXL.assign rfl ?_
      refine SXL.nil ?_
      refine thenQ.normal ?_
      refine SX.ret ?_
      refine retQ.unmark 6 rfl ?_
      refine retQ.sel [4] rfl rfl ?_
      refine retQ.two (ResAt.tmp rfl) (ResAt.tmp rfl) ?_
      have e2 := Ok.n ho1; subst e2; rw [toldL_ok hTo, hTo]; exact ⟨r1, ho1, rfl, rfl⟩
end Go.Proofs.YtknflipongbngaaDoor
