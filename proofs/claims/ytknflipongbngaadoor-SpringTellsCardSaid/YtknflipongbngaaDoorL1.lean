/- The walks of functions. -/
import Derived.Test.YtknflipongbngaaDoorFacts
import Derived.Test.YtknflipongbngaaDoorS7
import Derived.Test.YtknflipongbngaaDoorR4
import Derived.Test.YtknflipongbngaaDoorR5
import Derived.Test.YtknflipongbngaaDoorXB
namespace Go.Proofs.YtknflipongbngaaDoor
open Go.X Go.S Go.RowKit
set_option maxHeartbeats 4000000 in
theorem tells_any (s : Sp) (bo ro : Option Addr) (bc rc : Nat) (week need : Int) (w : World) (hg : Gl w) (hs : SpAt w s bo ro) :
    CallsR Tryd.prog 3 [.agg ⟨[.int .i64 s.weeks, .int .i64 s.most, .int .i64 s.fall, .int .i64 s.a0, .int .i64 s.a1, .int .i64 s.w0, .int .i64 s.w1, (.slice bo s.book.length bc), (.slice ro s.reads.length rc)]⟩, .int .i64 week, .int .i64 need] w (fun v _ => v = .bool true) := by
  refine CallsR.of_SX (n := 124) (rs := [.tmp 6]) Tryd.func3 rfl rfl rfl rfl ?_
  show SX _ _ _ ⟨[(0, .agg ⟨[.int .i64 s.weeks, .int .i64 s.most, .int .i64 s.fall, .int .i64 s.a0, .int .i64 s.a1, .int .i64 s.w0, .int .i64 s.w1, (.slice bo s.book.length bc), (.slice ro s.reads.length rc)]⟩), (1, .int .i64 week), (2, .int .i64 need)], [], []⟩
  refine SX.seq ?_
  refine SX.region ?_
  refine SXL.box rfl rfl ?_; intro b0
  refine SXL.assign rfl ?_
  refine SXL.nil ?_
  refine thenQ.normal ?_
  refine SX.seq ?_
  refine SX.seq ?_
  refine SX.region ?_
  refine SXL.loadNo 0 sh_27 rfl rfl rfl ?_
  refine SXL.call1 (.bool (decide ((30 : Int) < (s.book.length : Int) ∨ (30 : Int) < (s.reads.length : Int)))) fn_16 rfl (fun w hI => great_any s bo ro bc rc _) ?_
  refine SXL.nil ?_
  refine thenQ.normal ?_
  refine SX.condP rfl (fun c25 => ?_) (fun c25 => ?_)
  · refine SX.seq ?_
    refine SX.region ?_
    refine SXL.assign rfl ?_
    refine SXL.nil ?_
    refine thenQ.normal ?_
    refine SX.ret ?_
    refine thenQ.ret ?_
    refine retQ.dead [] rfl ?_
    refine retQ.one (ResAt.tmp rfl) ?_
    first | rfl | simp
  · refine SX.skip ?_
    refine thenQ.normal ?_
    refine SX.seq ?_
    have hT21 : (toldL s 0).length ≤ 1000000 := by
      by_cases h : toldE s 0 = 0
      · have := rnsL_max (toldE_valid h).1 (baseL s); rw [toldL_ok h]; omega
      · rw [toldL_bad rfl h]; exact Nat.zero_le _
    refine SX.region ?_
    refine SXL.loadNo 0 sh_27 rfl rfl rfl ?_
    refine SXL.callF (SpR s) fn_17 rfl (fun w hI => twin_any s bo ro bc rc (by omega) (by omega) w (hs.inv hI)) ?_; rintro _ _ ⟨r1, r2, o1, o2, rfl, rfl⟩
    refine SXL.alloc zp_27 ?_; intro b3
    refine SXL.store 3 sz_27 rfl rfl rfl rfl rfl rfl ?_
    refine SXL.nil ?_
    refine thenQ.normal ?_
    refine SX.seq ?_
    refine SX.region ?_
    refine SXL.loadNo 3 sh_27 rfl rfl rfl ?_
    refine SXL.call1 (.tuple ⟨[.bool (decide (SpP s ∧ TrueP s)), .int .i64 (if SpP s then 0 else 10)]⟩) fn_18 rfl (fun w hI => scan_any s r1.addr r2.addr r1.cap r2.cap (by omega) (by omega) _ (hg.inv hI) (spAtOwn hI o1 o2 (i := 1) (j := 2) rfl rfl)) ?_
    refine SXL.move rfl ?_
    refine SXL.extract rfl rfl ?_
    refine SXL.extract rfl rfl ?_
    refine SXL.assign rfl ?_
    refine SXL.assign rfl ?_
    refine SXL.nil ?_
    refine thenQ.normal ?_
    refine SX.seq ?_
    refine SX.region ?_
    refine SXL.loadNo 0 sh_27 rfl rfl rfl ?_
    refine SXL.call1 (.tuple ⟨[.bool (decide (SpP s ∧ TrueP s)), .int .i64 (if SpP s then 0 else 10)]⟩) fn_19 rfl (fun w hI => can_any s bo ro bc rc _ (hs.inv hI)) ?_
    refine SXL.move rfl ?_
    refine SXL.extract rfl rfl ?_
    refine SXL.extract rfl rfl ?_
    refine SXL.assign rfl ?_
    refine SXL.assign rfl ?_
    refine SXL.nil ?_
    refine thenQ.normal ?_
    refine SX.seq ?_
    refine SX.region ?_
    refine SXL.loadNo 3 sh_27 rfl rfl rfl ?_
    refine SXL.callF (IsR2 (toldL s 0) (toldE s 0)) fn_20 rfl (fun w hI => srains_any s r1.addr r2.addr r1.cap r2.cap (by omega) (by omega) w (hg.inv hI) (spAtOwn hI o1 o2 (i := 1) (j := 2) rfl rfl)) ?_; rintro _ _ ⟨q1, u1, rfl, rfl⟩
    refine SXL.move rfl ?_
    refine SXL.extract rfl rfl ?_
    refine SXL.extract rfl rfl ?_
    refine SXL.assign rfl ?_
    refine SXL.assign rfl ?_
    refine SXL.nil ?_
    refine thenQ.normal ?_
    refine SX.seq ?_
    refine SX.region ?_
    refine SXL.loadNo 0 sh_27 rfl rfl rfl ?_
    refine SXL.callF (IsR2 (toldL s 0) (toldE s 0)) fn_21 rfl (fun w hI => Rains_any s bo ro bc rc w (hs.inv hI)) ?_; rintro _ _ ⟨q2, u2, rfl, rfl⟩
    refine SXL.move rfl ?_
    refine SXL.extract rfl rfl ?_
    refine SXL.extract rfl rfl ?_
    refine SXL.assign rfl ?_
    refine SXL.assign rfl ?_
    refine SXL.nil ?_
    refine thenQ.normal ?_
    refine SX.seq ?_
    refine SX.region ?_
    refine SXL.loadNo 3 sh_27 rfl rfl rfl ?_
    refine SXL.move rfl ?_
    refine SXL.call1 (.tuple ⟨[.agg ⟨[.int .i64 ((givesLo s week)), .int .i64 ((givesHi s week))]⟩, .int .i64 (toldE s week)]⟩) fn_22 rfl (fun w hI => sgives_any s r1.addr r2.addr r1.cap r2.cap week (by omega) (by omega) _ (hg.inv hI) (spAtOwn hI o1 o2 (i := 1) (j := 2) rfl rfl)) ?_
    refine SXL.move rfl ?_
    refine SXL.extract rfl rfl ?_
    refine SXL.extract rfl rfl ?_
    refine SXL.alloc zp_23 ?_; intro b6
    refine SXL.store 6 sz_23 rfl rfl rfl rfl rfl rfl ?_
    refine SXL.assign rfl ?_
    refine SXL.nil ?_
    refine thenQ.normal ?_
    refine SX.seq ?_
    refine SX.region ?_
    refine SXL.loadNo 0 sh_27 rfl rfl rfl ?_
    refine SXL.move rfl ?_
    refine SXL.call1 (.tuple ⟨[.agg ⟨[.int .i64 ((givesLo s week)), .int .i64 ((givesHi s week))]⟩, .int .i64 (toldE s week)]⟩) fn_23 rfl (fun w hI => gives_any s bo ro bc rc week _ (hs.inv hI)) ?_
    refine SXL.move rfl ?_
    refine SXL.extract rfl rfl ?_
    refine SXL.extract rfl rfl ?_
    refine SXL.alloc zp_23 ?_; intro b7
    refine SXL.store 7 sz_23 rfl rfl rfl rfl rfl rfl ?_
    refine SXL.assign rfl ?_
    refine SXL.nil ?_
    refine thenQ.normal ?_
    refine SX.seq ?_
    refine SX.region ?_
    refine SXL.loadNo 3 sh_27 rfl rfl rfl ?_
    refine SXL.move rfl ?_
    refine SXL.move rfl ?_
    refine SXL.call1 (.tuple ⟨[.int .u8 (knownV s week need), .int .i64 (toldE s week)]⟩) fn_24 rfl (fun w hI => sknown_any s r1.addr r2.addr r1.cap r2.cap week need (by omega) (by omega) _ (hg.inv hI) (spAtOwn hI o1 o2 (i := 1) (j := 2) rfl rfl)) ?_
    refine SXL.move rfl ?_
    refine SXL.extract rfl rfl ?_
    refine SXL.extract rfl rfl ?_
    refine SXL.assign rfl ?_
    refine SXL.assign rfl ?_
    refine SXL.nil ?_
    refine thenQ.normal ?_
    refine SX.seq ?_
    refine SX.region ?_
    refine SXL.loadNo 0 sh_27 rfl rfl rfl ?_
    refine SXL.move rfl ?_
    refine SXL.move rfl ?_
    refine SXL.call1 (.tuple ⟨[.int .u8 (knownV s week need), .int .i64 (toldE s week)]⟩) fn_25 rfl (fun w hI => known_any s bo ro bc rc week need _ (hs.inv hI)) ?_
    refine SXL.move rfl ?_
    refine SXL.extract rfl rfl ?_
    refine SXL.extract rfl rfl ?_
    refine SXL.assign rfl ?_
    refine SXL.assign rfl ?_
    refine SXL.nil ?_
    refine thenQ.normal ?_
    refine SX.seq ?_
    refine SX.draw 51 (by kernel_rfl) (by kernel_rfl) {} ?_
    refine SXA.take 0 51 rfl (by kernel_rfl) rfl ?_
    refine SXL.loadNo 3 sh_27 rfl rfl rfl ?_
    refine SXL.call1 (.int .i64 (if SpP s then 0 else 10)) fn_26 rfl (fun w hI => scheck_any s r1.addr r2.addr r1.cap r2.cap (by omega) (by omega) _ (hg.inv hI) (spAtOwn hI o1 o2 (i := 1) (j := 2) rfl rfl)) ?_
    refine SXL.loadNo 0 sh_27 rfl rfl rfl ?_
    refine SXL.call1 (.int .i64 (if SpP s then 0 else 10)) fn_27 rfl (fun w hI => check_any s bo ro bc rc _ (hs.inv hI)) ?_
    refine SXL.eqlI rfl rfl ?_
    refine SXL.move rfl ?_
    apply SXL.andG 3
    case hl => exact rfl
    case hd => exact rfl
    case hg => exact rfl
    case ht =>
      intro g2
      refine SXL.move rfl ?_
      refine SXL.move rfl ?_
      refine SXL.eqlB (by kernel_rfl) rfl rfl ?_
      exact SXL.nil (segQ.mk (.skip rfl (.skip rfl (.skip rfl (.skip rfl (EnvSub.refl _))))) rfl rfl ⟨rfl, rfl⟩)
    case hf =>
      intro g2
      refine SXL.pass rfl rfl rfl ?_
      refine SXL.pass rfl rfl rfl ?_
      refine SXL.pass rfl rfl rfl ?_
      exact SXL.nil (segQ.mk (.skip rfl (.skip rfl (.skip rfl (.skip rfl (EnvSub.refl _))))) rfl rfl rfl)
    refine SXL.move rfl ?_
    apply SXL.andG 3
    case hl => exact rfl
    case hd => exact rfl
    case hg => exact rfl
    case ht =>
      intro g3
      refine SXL.move rfl ?_
      refine SXL.move rfl ?_
      refine SXL.eqlI rfl rfl ?_
      exact SXL.nil (segQ.mk (.skip rfl (.skip rfl (.skip rfl (.skip rfl (EnvSub.refl _))))) rfl rfl ⟨rfl, rfl⟩)
    case hf =>
      intro g3
      refine SXL.pass rfl rfl rfl ?_
      refine SXL.pass rfl rfl rfl ?_
      refine SXL.pass rfl rfl rfl ?_
      exact SXL.nil (segQ.mk (.skip rfl (.skip rfl (.skip rfl (.skip rfl (EnvSub.refl _))))) rfl rfl rfl)
    refine SXL.move rfl ?_
    apply SXL.andG 3
    case hl => exact rfl
    case hd => exact rfl
    case hg => exact rfl
    case ht =>
      intro g4
      refine SXL.move rfl ?_
      refine SXL.move rfl ?_
      refine SXL.call1 (.bool (decide (toldL s 0 = toldL s 0))) fn_28 rfl (fun w hI => sameInts_any (toldL s 0) (toldL s 0) q1.addr q2.addr q1.cap q2.cap hT21 _ (slOnes hI u1 (i := 4) rfl) (slOnes hI u2 (i := 5) rfl)) ?_
      exact SXL.nil (segQ.mk (.skip rfl (.skip rfl (.skip rfl (.skip rfl (EnvSub.refl _))))) rfl rfl ⟨rfl, rfl⟩)
    case hf =>
      intro g4
      refine SXL.pass rfl rfl rfl ?_
      refine SXL.pass rfl rfl rfl ?_
      refine SXL.pass rfl rfl rfl ?_
      exact SXL.nil (segQ.mk (.skip rfl (.skip rfl (.skip rfl (.skip rfl (EnvSub.refl _))))) rfl rfl rfl)
    refine SXL.move rfl ?_
    apply SXL.andG 3
    case hl => exact rfl
    case hd => exact rfl
    case hg => exact rfl
    case ht =>
      intro g5
      refine SXL.move rfl ?_
      refine SXL.move rfl ?_
      refine SXL.eqlI rfl rfl ?_
      exact SXL.nil (segQ.mk (.skip rfl (.skip rfl (.skip rfl (.skip rfl (EnvSub.refl _))))) rfl rfl ⟨rfl, rfl⟩)
    case hf =>
      intro g5
      refine SXL.pass rfl rfl rfl ?_
      refine SXL.pass rfl rfl rfl ?_
      refine SXL.pass rfl rfl rfl ?_
      exact SXL.nil (segQ.mk (.skip rfl (.skip rfl (.skip rfl (.skip rfl (EnvSub.refl _))))) rfl rfl rfl)
    refine SXL.move rfl ?_
    apply SXL.andG 3
    case hl => exact rfl
    case hd => exact rfl
    case hg => exact rfl
    case ht =>
      intro g6
      refine SXL.loadNo 6 sh_23 rfl rfl rfl ?_
      refine SXL.loadNo 7 sh_23 rfl rfl rfl ?_
      refine SXL.eqlV (p := [givesLo s week, givesHi s week] = [givesLo s week, givesHi s week]) (u := .agg ⟨ints ([givesLo s week, givesHi s week])⟩) (v := .agg ⟨ints ([givesLo s week, givesHi s week])⟩) rfl rfl (run_eql_ints eq_23 eg_23 sh_23 rfl rfl) ?_
      exact SXL.nil (segQ.mk (.skip rfl (.skip rfl (.skip rfl (.skip rfl (EnvSub.refl _))))) rfl rfl ⟨rfl, rfl⟩)
    case hf =>
      intro g6
      refine SXL.pass rfl rfl rfl ?_
      refine SXL.pass rfl rfl rfl ?_
      refine SXL.pass rfl rfl rfl ?_
      exact SXL.nil (segQ.mk (.skip rfl (.skip rfl (.skip rfl (.skip rfl (EnvSub.refl _))))) rfl rfl rfl)
    refine SXL.move rfl ?_
    apply SXL.andG 3
    case hl => exact rfl
    case hd => exact rfl
    case hg => exact rfl
    case ht =>
      intro g7
      refine SXL.move rfl ?_
      refine SXL.move rfl ?_
      refine SXL.eqlI rfl rfl ?_
      exact SXL.nil (segQ.mk (.skip rfl (.skip rfl (.skip rfl (.skip rfl (EnvSub.refl _))))) rfl rfl ⟨rfl, rfl⟩)
    case hf =>
      intro g7
      refine SXL.pass rfl rfl rfl ?_
      refine SXL.pass rfl rfl rfl ?_
      refine SXL.pass rfl rfl rfl ?_
      exact SXL.nil (segQ.mk (.skip rfl (.skip rfl (.skip rfl (.skip rfl (EnvSub.refl _))))) rfl rfl rfl)
    refine SXL.move rfl ?_
    apply SXL.andG 3
    case hl => exact rfl
    case hd => exact rfl
    case hg => exact rfl
    case ht =>
      intro g8
      refine SXL.move rfl ?_
      refine SXL.move rfl ?_
      refine SXL.eqlI rfl rfl ?_
      exact SXL.nil (segQ.mk (.skip rfl (.skip rfl (.skip rfl (.skip rfl (EnvSub.refl _))))) rfl rfl ⟨rfl, rfl⟩)
    case hf =>
      intro g8
      refine SXL.pass rfl rfl rfl ?_
      refine SXL.pass rfl rfl rfl ?_
      refine SXL.pass rfl rfl rfl ?_
      exact SXL.nil (segQ.mk (.skip rfl (.skip rfl (.skip rfl (.skip rfl (EnvSub.refl _))))) rfl rfl rfl)
    refine SXL.move rfl ?_
    apply SXL.andG 3
    case hl => exact rfl
    case hd => exact rfl
    case hg => exact rfl
    case ht =>
      intro g9
      refine SXL.move rfl ?_
      refine SXL.move rfl ?_
      refine SXL.eqlI rfl rfl ?_
      exact SXL.nil (segQ.mk (.skip rfl (.skip rfl (.skip rfl (.skip rfl (EnvSub.refl _))))) rfl rfl ⟨rfl, rfl⟩)
    case hf =>
      intro g9
      refine SXL.pass rfl rfl rfl ?_
      refine SXL.pass rfl rfl rfl ?_
      refine SXL.pass rfl rfl rfl ?_
      exact SXL.nil (segQ.mk (.skip rfl (.skip rfl (.skip rfl (.skip rfl (EnvSub.refl _))))) rfl rfl rfl)
    refine SXL.move rfl ?_
    apply SXL.andG 3
    case hl => exact rfl
    case hd => exact rfl
    case hg => exact rfl
    case ht =>
      intro g10
      refine SXL.loadNo 3 sh_27 rfl rfl rfl ?_
      refine SXL.loadNo 0 sh_27 rfl rfl rfl ?_
      refine SXL.call1 (.bool (decide (s = s))) fn_29 rfl (fun w hI => same_any s s r1.addr r2.addr bo ro r1.cap r2.cap bc rc (by omega) (by omega) _ (spAtOwn hI o1 o2 (i := 1) (j := 2) rfl rfl) (hs.inv hI)) ?_
      exact SXL.nil (segQ.mk (.skip rfl (.skip rfl (.skip rfl (.skip rfl (EnvSub.refl _))))) rfl rfl ⟨rfl, rfl⟩)
    case hf =>
      intro g10
      refine SXL.pass rfl rfl rfl ?_
      refine SXL.pass rfl rfl rfl ?_
      refine SXL.pass rfl rfl rfl ?_
      exact SXL.nil (segQ.mk (.skip rfl (.skip rfl (.skip rfl (.skip rfl (EnvSub.refl _))))) rfl rfl rfl)
    refine SXL.assign rfl ?_
    refine SXL.nil ⟨rfl, rfl, rfl, ?_⟩
    refine SXA.done (by kernel_rfl) ?_
    refine SXL.nil ?_
    refine thenQ.normal ?_
    refine SX.ret ?_
    refine retQ.dead [] rfl ?_
    refine retQ.one (ResAt.tmp rfl) ?_
    first | rfl | simp
end Go.Proofs.YtknflipongbngaaDoor
