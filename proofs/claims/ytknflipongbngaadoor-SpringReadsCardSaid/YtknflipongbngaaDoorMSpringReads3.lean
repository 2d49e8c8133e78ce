/- Texts of the proof, merged: S2, P10, D5, S3, P11, S4, XW, D6, S5, S6, R1, R2, R3. -/
import Derived.Test.YtknflipongbngaaDoorMSpringReads2
/- The walks of functions. -/
namespace Go.Proofs.YtknflipongbngaaDoor
open Go.X Go.S Go.RowKit
theorem scheck_any (s : Sp) (bo ro : Option Addr) (bc rc : Nat) (hb : s.book.length ≤ 1000000) (hr : s.reads.length ≤ 1000000) (w : World) (hg : Gl w) (hs : SpAt w s bo ro) :
    CallsR Tryd.prog 26 [.agg ⟨[.int .i64 s.weeks, .int .i64 s.most, .int .i64 s.fall, .int .i64 s.a0, .int .i64 s.a1, .int .i64 s.w0, .int .i64 s.w1, (.slice bo s.book.length bc), (.slice ro s.reads.length rc)]⟩] w (fun v _ => v = .int .i64 (if SpP s then 0 else 10)) := by
  refine CallsR.of_SX (n := 15) (rs := [.tmp 2]) Tryd.func26 rfl rfl rfl rfl ?_
  show SX _ _ _ ⟨[(0, .agg ⟨[.int .i64 s.weeks, .int .i64 s.most, .int .i64 s.fall, .int .i64 s.a0, .int .i64 s.a1, .int .i64 s.w0, .int .i64 s.w1, (.slice bo s.book.length bc), (.slice ro s.reads.length rc)]⟩)], [], []⟩
  refine SX.seq ?_
  refine SX.region ?_
  refine SXL.box rfl rfl ?_; intro b0
  refine SXL.assign rfl ?_
  refine SXL.nil ?_
  refine thenQ.normal ?_
  refine SX.seq ?_
  refine SX.seq ?_
  refine SX.region ?_
  refine SXL.loadN sh_131 rfl (hg.memC _) rfl ?_
  refine SXL.move rfl ?_
  refine SXL.nil ?_
  refine thenQ.normal ?_
  refine SX.block ?_
  refine SX.loopG (α := Nat) [1, 2, 5] rfl (fun k => [(6, .int .i64 ((k : Int)))]) (fun k => []) (fun k => k ≤ 5 ∧ ∀ i, i < k → ckP s i) (fun k => 5 - k) 0 ⟨Nat.zero_le _, fun _ h => absurd h (Nat.not_lt_zero _)⟩ ⟨rfl, trivial⟩ rfl ?_
  rintro k ⟨hk, hall⟩
  refine SX.seq ?_
  refine SX.region ?_
  refine SXL.lss rfl rfl ?_
  refine SXL.nil ?_
  refine thenQ.normal ?_
  refine SX.seq ?_
  refine SX.condP rfl (fun c7 => ?_) (fun c7 => ?_)
  · refine SX.skip ?_
    refine thenQ.normal ?_
    refine SX.seq ?_
    refine SX.block ?_
    refine SX.seq ?_
    refine SX.region ?_
    refine SXL.indexV ae_131 sh_130 rfl rfl (by omega) (chk_take k (by omega)) ?_
    refine SXL.alloc zp_130 ?_; intro b1
    refine SXL.store 1 sz_130 rfl rfl rfl rfl rfl rfl ?_
    refine SXL.nil ?_
    refine thenQ.normal ?_
    refine SX.seq ?_
    refine SX.region ?_
    refine SXL.fieldAddr fp_130_0 rfl ?_
    refine SXL.load1o 1 sh_28 rfl rfl rfl ?_
    refine SXL.loadNo 0 sh_27 rfl rfl rfl ?_
    refine SXL.call1V (.bool (decide (ckP s k))) (fn_chk k (by omega)) rfl rfl (fun w hI => chk_any s bo ro bc rc k (by omega) hall hb hr w (hs.inv hI)) ?_
    refine SXL.not rfl ?_
    refine SXL.nil ?_
    refine thenQ.normal ?_
    refine SX.condP rfl (fun c13 => ?_) (fun c13 => ?_)
    · refine SX.seq ?_
      refine SX.region ?_
      refine SXL.assign rfl ?_
      refine SXL.nil ?_
      refine thenQ.normal ?_
      refine SX.ret ?_
      refine blockQ.ret ?_
      refine thenQ.ret ?_
      refine thenQ.ret ?_
      refine blockQ.ret ?_
      refine thenQ.ret ?_
      refine retQ.one (ResAt.tmp rfl) ?_
      rw [if_neg (fun h => c13 ((ck_iff s).1 h k (by omega)))]
    · refine SX.skip ?_
      refine blockQ.normal ?_
      refine thenQ.normal ?_
      refine SX.region ?_
      refine SXL.add rfl rfl (by omega) ?_
      refine SXL.move rfl ?_
      refine SXL.nil ?_
      refine thenQ.normal ?_
      refine ⟨k + 1, Meets.mk _ ⟨rfl, trivial⟩ ⟨rfl, rfl, rfl, trivial⟩ rfl, ?_, (by omega)⟩
      refine ⟨by omega, fun i hi => ?_⟩
      by_cases e : i = k
      · subst e; exact Decidable.not_not.1 c13
      · exact hall i (by omega)
  · refine SX.exit ?_
    refine thenQ.exit ?_
    refine thenQ.exit ?_
    refine blockQ.exit ?_
    refine thenQ.normal ?_
    refine SX.seq ?_
    refine SX.region ?_
    refine SXL.assign rfl ?_
    refine SXL.nil ?_
    refine thenQ.normal ?_
    refine SX.ret ?_
    refine retQ.one (ResAt.tmp rfl) ?_
    rw [if_pos ((ck_iff s).2 fun i hi => hall i (by omega))]
theorem both_any (a b c d : Int) (w : World) (hg : Gl w) :
    CallsR Tryd.prog 116 [.agg ⟨[.int .i64 a, .int .i64 b]⟩, .agg ⟨[.int .i64 c, .int .i64 d]⟩] w (fun v _ => v = spanV (bothP a b c d)) := by
  refine CallsR.of_SX (n := 24) (rs := [.cell 4 23]) Tryd.func116 rfl rfl rfl rfl ?_
  show SX _ _ _ ⟨[(0, .agg ⟨[.int .i64 a, .int .i64 b]⟩), (1, .agg ⟨[.int .i64 c, .int .i64 d]⟩)], [], []⟩
  refine SX.seq ?_
  refine SX.region ?_
  refine SXL.box rfl rfl ?_; intro b0
  refine SXL.box rfl rfl ?_; intro b1
  refine SXL.alloc zp_23 ?_; intro b2
  refine SXL.nil ?_
  refine thenQ.normal ?_
  refine SX.seq ?_
  refine SX.region ?_
  refine SXL.fieldAddr fp_23_0 rfl ?_
  refine SXL.load1o 0 sh_3 rfl rfl rfl ?_
  refine SXL.fieldAddr fp_23_0 rfl ?_
  refine SXL.load1o 1 sh_3 rfl rfl rfl ?_
  refine SXL.max rfl rfl ?_
  refine SXL.fieldAddr fp_23_1 rfl ?_
  refine SXL.load1o 0 sh_3 rfl rfl rfl ?_
  refine SXL.fieldAddr fp_23_1 rfl ?_
  refine SXL.load1o 1 sh_3 rfl rfl rfl ?_
  refine SXL.min rfl rfl ?_
  refine SXL.buildS pl_23 zp_23 rfl rfl ?_
  refine SXL.alloc zp_23 ?_; intro b3
  refine SXL.store 3 sz_23 rfl rfl rfl rfl rfl rfl ?_
  refine SXL.nil ?_
  refine thenQ.normal ?_
  refine SX.seq ?_
  refine SX.seq ?_
  refine SX.region ?_
  refine SXL.fieldAddr fp_23_0 rfl ?_
  refine SXL.load1o 3 sh_3 rfl rfl rfl ?_
  refine SXL.fieldAddr fp_23_1 rfl ?_
  refine SXL.load1o 3 sh_3 rfl rfl rfl ?_
  refine SXL.gtr rfl rfl ?_
  refine SXL.nil ?_
  refine thenQ.normal ?_
  refine SX.condP rfl (fun c21 => ?_) (fun c21 => ?_)
  · refine SX.seq ?_
    refine SX.region ?_
    refine SXL.loadN sh_23 rfl (hg.memN _) rfl ?_
    refine SXL.store 2 sz_23 rfl rfl rfl rfl rfl rfl ?_
    refine SXL.nil ?_
    refine thenQ.normal ?_
    refine SX.ret ?_
    refine thenQ.ret ?_
    refine retQ.one (ResAt.cellNo 2 sh_23 rfl rfl rfl) ?_
    rw [bothP, if_pos c21]; rfl
  · refine SX.skip ?_
    refine thenQ.normal ?_
    refine SX.seq ?_
    refine SX.region ?_
    refine SXL.loadNo 3 sh_23 rfl rfl rfl ?_
    refine SXL.store 2 sz_23 rfl rfl rfl rfl rfl rfl ?_
    refine SXL.nil ?_
    refine thenQ.normal ?_
    refine SX.ret ?_
    refine retQ.one (ResAt.cellNo 2 sh_23 rfl rfl rfl) ?_
    rw [bothP, if_neg c21]; rfl
theorem reads_any (s : Sp) (bo ro : Option Addr) (bc rc : Nat) (x : Rd) (h1 : Spn s.a0 s.a1 1 600) (h2 : Spn x.s0 x.s1 0 99) (h3 : Wi x.bu 1 40) (h4 : 0 < x.s1) (h5 : Wi s.most 0 100) (w : World) (hg : Gl w) :
    CallsR Tryd.prog 81 [.agg ⟨[.int .i64 s.weeks, .int .i64 s.most, .int .i64 s.fall, .int .i64 s.a0, .int .i64 s.a1, .int .i64 s.w0, .int .i64 s.w1, (.slice bo s.book.length bc), (.slice ro s.reads.length rc)]⟩, .agg ⟨x.cells⟩] w (fun v _ => v = spanV (readsP s x)) := by
  have m1 := mul2 (a := x.s1) (b := s.a1) (A := 99) (B := 600) (by omega) (by omega) (by omega) (by omega)
  have m2 := mul2 (a := x.s0) (b := s.a0) (A := 99) (B := 600) (by omega) (by omega) (by omega) (by omega)
  have m3 := Int.mul_pos h4 (show 0 < s.a1 by omega)
  refine CallsR.of_SX (n := 49) (rs := [.cell 4 23]) Tryd.func81 rfl rfl rfl rfl ?_
  show SX _ _ _ ⟨[(0, .agg ⟨[.int .i64 s.weeks, .int .i64 s.most, .int .i64 s.fall, .int .i64 s.a0, .int .i64 s.a1, .int .i64 s.w0, .int .i64 s.w1, (.slice bo s.book.length bc), (.slice ro s.reads.length rc)]⟩), (1, .agg ⟨x.cells⟩)], [], []⟩
  refine SX.seq ?_
  refine SX.region ?_
  refine SXL.box rfl rfl ?_; intro b0
  refine SXL.box rfl rfl ?_; intro b1
  refine SXL.alloc zp_23 ?_; intro b2
  refine SXL.nil ?_
  refine thenQ.normal ?_
  refine SX.seq ?_
  refine SX.region ?_
  refine SXL.fieldAddr fp_54_2 rfl ?_
  refine SXL.load1o 1 sh_3 rfl rfl rfl ?_
  refine SXL.mul rfl rfl (by omega) ?_
  refine SXL.assign rfl ?_
  refine SXL.nil ?_
  refine thenQ.normal ?_
  refine SX.seq ?_
  refine SX.draw 16 (by kernel_rfl) (by kernel_rfl) {} ?_
  refine SXA.take 0 16 rfl (by kernel_rfl) rfl ?_
  refine SXL.fieldAddr fp_54_3 rfl ?_
  refine SXL.fieldAddr fp_23_1 rfl ?_
  refine SXL.load1o 1 sh_3 rfl rfl rfl ?_
  refine SXL.fieldAddr fp_27_3 rfl ?_
  refine SXL.fieldAddr fp_23_1 rfl ?_
  refine SXL.load1o 0 sh_3 rfl rfl rfl ?_
  refine SXL.mul rfl rfl (by omega) ?_
  refine SXL.fieldAddr fp_54_3 rfl ?_
  refine SXL.fieldAddr fp_23_0 rfl ?_
  refine SXL.load1o 1 sh_3 rfl rfl rfl ?_
  refine SXL.fieldAddr fp_27_3 rfl ?_
  refine SXL.fieldAddr fp_23_0 rfl ?_
  refine SXL.load1o 0 sh_3 rfl rfl rfl ?_
  refine SXL.mul rfl rfl (by omega) ?_
  refine SXL.assign rfl ?_
  refine SXL.assign rfl ?_
  refine SXL.nil ⟨rfl, rfl, rfl, ?_⟩
  refine SXA.done (by kernel_rfl) ?_
  refine SXL.nil ?_
  refine thenQ.normal ?_
  refine SX.seq ?_
  refine SX.draw 10 (by kernel_rfl) (by kernel_rfl) {} ?_
  refine SXA.take 0 9 rfl (by kernel_rfl) rfl ?_
  refine SXL.move rfl ?_
  refine SXL.move rfl ?_
  refine SXL.add rfl rfl (by omega) ?_
  refine SXL.sub rfl rfl (by omega) ?_
  refine SXL.move rfl ?_
  refine SXL.quo rfl rfl (by omega) ?_
  refine SXL.fieldAddr fp_27_1 rfl ?_
  refine SXL.load1o 0 sh_3 rfl rfl rfl ?_
  refine SXL.buildS pl_23 zp_23 rfl rfl ?_
  refine SXL.nil ⟨rfl, rfl, rfl, ?_⟩
  refine SXA.all [9] (by kernel_rfl) rfl ⟨⟨?_, rfl⟩, trivial⟩
  refine (show SXL _ _ [_] _ _ from ?_)
  refine SXL.alloc zp_23 ?_; intro b3
  refine SXL.nil (stepQ.mk _ rfl rfl ?_)
  refine SXA.done (by kernel_rfl) ?_
  refine SXL.store 3 sz_23 rfl rfl rfl rfl rfl rfl ?_
  refine SXL.nil ?_
  refine thenQ.normal ?_
  refine SX.cutG (α := Unit) [2, 4, 8] rfl (fun _u => []) (fun _u => [(3, (b3, .cells ⟨[.int .i64 ((3600 * x.bu + x.s1 * s.a1 - 1) / (x.s1 * s.a1)), .int .i64 (if 0 < x.s0 * s.a0 then min s.most ((3600 * x.bu) / (x.s0 * s.a0)) else s.most)]⟩ 23 (0, 0)))]) (fun _u => True) ?_ ?_
  · refine SX.seq ?_
    refine SX.region ?_
    refine SXL.move rfl ?_
    refine SXL.gtr rfl rfl ?_
    refine SXL.nil ?_
    refine thenQ.normal ?_
    refine SX.condP rfl (fun c36 => ?_) (fun c36 => ?_)
    · refine SX.draw 7 (by kernel_rfl) (by kernel_rfl) {} ?_
      refine SXA.take 0 7 rfl (by kernel_rfl) rfl ?_
      refine SXL.fieldAddr fp_23_1 rfl ?_
      refine SXL.load1o 3 sh_3 rfl rfl rfl ?_
      refine SXL.move rfl ?_
      refine SXL.move rfl ?_
      refine SXL.quo rfl rfl (by omega) ?_
      refine SXL.min rfl rfl ?_
      refine SXL.fieldAddr fp_23_1 rfl ?_
      refine SXL.nil ⟨rfl, rfl, rfl, ?_⟩
      refine SXA.done (by kernel_rfl) ?_
      refine SXL.store 3 sz_3 rfl rfl rfl rfl rfl rfl ?_
      refine SXL.nil ?_
      refine thenQ.normal ?_
      refine ⟨(), Meets.mk _ trivial ⟨rfl, rfl, rfl, trivial⟩ (by first | (rw [if_pos c36]; rfl) | (rw [if_neg c36]; rfl)), trivial⟩
    · refine SX.skip ?_
      refine thenQ.normal ?_
      refine ⟨(), Meets.mk _ trivial ⟨rfl, rfl, rfl, trivial⟩ (by first | (rw [if_pos c36]; rfl) | (rw [if_neg c36]; rfl)), trivial⟩
  rintro _ _
  refine SX.seq ?_
  refine SX.region ?_
  refine SXL.loadNo 3 sh_23 rfl rfl rfl ?_
  refine SXL.fieldAddr fp_27_1 rfl ?_
  refine SXL.load1o 0 sh_3 rfl rfl rfl ?_
  refine SXL.buildS pl_23 zp_23 rfl rfl ?_
  refine SXL.call1 (spanV (bothP ((3600 * x.bu + x.s1 * s.a1 - 1) / (x.s1 * s.a1)) (if 0 < x.s0 * s.a0 then min s.most ((3600 * x.bu) / (x.s0 * s.a0)) else s.most) (0) (s.most))) fn_116 rfl (fun w hI => both_any _ _ _ _ _ (hg.inv hI)) ?_
  refine SXL.store 2 sz_23 rfl rfl rfl rfl rfl rfl ?_
  refine SXL.nil ?_
  refine thenQ.normal ?_
  refine SX.ret ?_
  refine retQ.one (ResAt.cellNo 2 sh_23 rfl rfl rfl) ?_
  first | rfl | assumption
theorem flowing_any (s : Sp) (bo ro : Option Addr) (bc rc : Nat) (hv : SpP s) (w : World) (hg : Gl w) (hs : SpAt w s bo ro) :
    CallsR Tryd.prog 72 [.agg ⟨[.int .i64 s.weeks, .int .i64 s.most, .int .i64 s.fall, .int .i64 s.a0, .int .i64 s.a1, .int .i64 s.w0, .int .i64 s.w1, (.slice bo s.book.length bc), (.slice ro s.reads.length rc)]⟩] w (fun v _ => v = .agg ⟨watC s bo ro bc rc (flL s)⟩) := by
  have hH := hv.1
  unfold HeadP at hH
  refine CallsR.of_SX (n := 43) (rs := [.cell 2 117]) Tryd.func72 rfl rfl rfl rfl ?_
  show SX _ _ _ ⟨[(0, .agg ⟨[.int .i64 s.weeks, .int .i64 s.most, .int .i64 s.fall, .int .i64 s.a0, .int .i64 s.a1, .int .i64 s.w0, .int .i64 s.w1, (.slice bo s.book.length bc), (.slice ro s.reads.length rc)]⟩)], [], []⟩
  refine SX.seq ?_
  refine SX.region ?_
  refine SXL.box rfl rfl ?_; intro b0
  refine SXL.alloc zp_117 ?_; intro b1
  refine SXL.nil ?_
  refine thenQ.normal ?_
  refine SX.seq ?_
  refine SX.region ?_
  refine SXL.loadNo 0 sh_27 rfl rfl rfl ?_
  refine SXL.buildS pl_117 zp_117 rfl rfl ?_
  refine SXL.alloc zp_117 ?_; intro b2
  refine SXL.store 2 sz_117 rfl rfl rfl rfl rfl rfl ?_
  refine SXL.nil ?_
  refine thenQ.normal ?_
  refine SX.seq ?_
  refine SX.seq ?_
  refine SX.region ?_
  refine SXL.fieldAddr fp_27_0 rfl ?_
  refine SXL.load1o 0 sh_3 rfl rfl rfl ?_
  refine SXL.move rfl ?_
  refine SXL.nil ?_
  refine thenQ.normal ?_
  refine SX.block ?_
  refine SX.loopG (α := Nat) [1, 2, 3, 10] rfl (fun k => [(11, .int .i64 ((k : Int)))]) (fun k => [(2, (b2, .cells ⟨watC s bo ro bc rc (fl0 s k)⟩ 117 (0, 0)))]) (fun k => k ≤ s.weeks.toNat) (fun k => s.weeks.toNat - k) 0 (Nat.zero_le _) ⟨rfl, trivial⟩ rfl ?_
  rintro k hk
  refine SX.seq ?_
  refine SX.region ?_
  refine SXL.lss rfl rfl ?_
  refine SXL.nil ?_
  refine thenQ.normal ?_
  refine SX.seq ?_
  refine SX.condP rfl (fun c1 => ?_) (fun c1 => ?_)
  · refine SX.skip ?_
    refine thenQ.normal ?_
    refine SX.seq ?_
    refine SX.block ?_
    refine SX.seq ?_
    refine SX.region ?_
    refine SXL.move rfl ?_
    refine SXL.assign rfl ?_
    refine SXL.nil ?_
    refine thenQ.normal ?_
    refine SX.region ?_
    refine SXL.move rfl ?_
    refine SXL.fieldAddr fp_27_1 rfl ?_
    refine SXL.load1o 0 sh_3 rfl rfl rfl ?_
    refine SXL.buildS pl_23 zp_23 rfl rfl ?_
    refine SXL.fieldAddr fp_117_1 rfl ?_
    refine SXL.indexA el_114 rfl rfl (by omega) ?_
    refine SXL.store 2 sz_23 rfl rfl rfl rfl rfl (putApp 9 rfl (ints_put2' (p := (0, s.most)) (i := k) rfl (by simp only [fl0_len]; omega)) (by omega)) ?_
    refine SXL.nil ?_
    refine blockQ.normal ?_
    refine thenQ.normal ?_
    refine SX.region ?_
    refine SXL.add rfl rfl (by omega) ?_
    refine SXL.move rfl ?_
    refine SXL.nil ?_
    refine thenQ.normal ?_
    refine ⟨k + 1, Meets.mk _ ⟨rfl, trivial⟩ ⟨rfl, rfl, rfl, rfl, trivial⟩ rfl, (by omega), (by omega)⟩
  · refine SX.exit ?_
    refine thenQ.exit ?_
    refine thenQ.exit ?_
    refine blockQ.exit ?_
    refine thenQ.normal ?_
    refine SX.seq ?_
    refine SX.seq ?_
    obtain rfl : k = s.weeks.toNat := by omega
    refine SX.region ?_
    refine SXL.fieldAddr fp_27_6 rfl ?_
    refine SXL.load1o 0 sh_25 rfl rfl rfl ?_
    refine SXL.len is_25 rfl ?_
    refine SXL.move rfl ?_
    refine SXL.nil ?_
    refine thenQ.normal ?_
    refine SX.block ?_
    refine SX.loopG (α := Nat) [1, 2, 3, 22, 23] rfl (fun k => [(24, .int .i64 ((k : Int)))]) (fun k => [(2, (b2, .cells ⟨watC s bo ro bc rc (flTo s k)⟩ 117 (0, 0)))]) (fun k => k ≤ s.reads.length) (fun k => s.reads.length - k) 0 (Nat.zero_le _) ⟨rfl, trivial⟩ rfl ?_
    rintro k hk2
    refine SX.seq ?_
    refine SX.region ?_
    refine SXL.lss rfl rfl ?_
    refine SXL.nil ?_
    refine thenQ.normal ?_
    refine SX.seq ?_
    refine SX.condP rfl (fun c2 => ?_) (fun c2 => ?_)
    · refine SX.skip ?_
      refine thenQ.normal ?_
      refine SX.seq ?_
      refine SX.block ?_
      refine SX.seq ?_
      obtain ⟨b, o, ha, hm⟩ := hs.readD (i := k) (by omega)
      have hrd := ((reads_iff s).1 hv.2.2 k (by omega)).1
      refine SX.region ?_
      refine SXL.indexR el_25 rfl rfl ha (by omega) ?_
      refine SXL.loadN sh_54 rfl (hm _) rfl ?_
      refine SXL.alloc zp_54 ?_; intro b3
      refine SXL.store 3 sz_54 rfl rfl rfl rfl rfl rfl ?_
      refine SXL.nil ?_
      refine thenQ.normal ?_
      refine SX.draw 13 (by kernel_rfl) (by kernel_rfl) {} ?_
      refine SXA.take 0 13 rfl (by kernel_rfl) rfl ?_
      refine SXL.fieldAddr fp_54_1 rfl ?_
      refine SXL.load1o 3 sh_3 rfl rfl rfl ?_
      refine SXL.fieldAddr fp_54_1 rfl ?_
      refine SXL.load1o 3 sh_3 rfl rfl rfl ?_
      refine SXL.fieldAddr fp_117_1 rfl ?_
      refine SXL.indexA el_114 rfl rfl (by omega) ?_
      refine SXL.loadNo 2 sh_23 rfl rfl (takeApp 9 rfl (ints_take2' (i := (s.reads.getD k default).wk.toNat) rfl (by simp only [flTo_len]; omega)) (by omega)) ?_
      refine SXL.loadNo 0 sh_27 rfl rfl rfl ?_
      refine SXL.loadNo 3 sh_54 rfl rfl rfl ?_
      refine SXL.call1 (spanV (readsP s (s.reads.getD k default))) fn_81 rfl (fun w hI => reads_any s bo ro bc rc (s.reads.getD k default) (by omega) (by omega) (by omega) (by omega) (by omega) _ (hg.inv hI)) ?_
      refine SXL.call1 (spanV (bothP (Lo (flTo s k) (s.reads.getD k default).wk.toNat) (Hi (flTo s k) (s.reads.getD k default).wk.toNat) ((readsP s (s.reads.getD k default)).1) ((readsP s (s.reads.getD k default)).2))) fn_116 rfl (fun w hI => both_any _ _ _ _ _ (hg.inv hI)) ?_
      refine SXL.fieldAddr fp_117_1 rfl ?_
      refine SXL.indexA el_114 rfl rfl (by omega) ?_
      refine SXL.nil ⟨rfl, rfl, rfl, ?_⟩
      refine SXA.done (by kernel_rfl) ?_
      refine SXL.store 2 sz_23 rfl rfl rfl rfl rfl (putApp 9 rfl (ints_put2' (p := bothP (Lo (flTo s k) (s.reads.getD k default).wk.toNat) (Hi (flTo s k) (s.reads.getD k default).wk.toNat) (readsP s (s.reads.getD k default)).1 (readsP s (s.reads.getD k default)).2) (i := (s.reads.getD k default).wk.toNat) rfl (by simp only [flTo_len]; omega)) (by omega)) ?_
      refine SXL.nil ?_
      refine blockQ.normal ?_
      refine thenQ.normal ?_
      refine SX.region ?_
      refine SXL.add rfl rfl (by omega) ?_
      refine SXL.move rfl ?_
      refine SXL.nil ?_
      refine thenQ.normal ?_
      refine ⟨k + 1, Meets.mk _ ⟨rfl, trivial⟩ ⟨rfl, rfl, rfl, rfl, rfl, trivial⟩ rfl, (by omega), (by omega)⟩
    · refine SX.exit ?_
      refine thenQ.exit ?_
      refine thenQ.exit ?_
      refine blockQ.exit ?_
      refine thenQ.normal ?_
      refine SX.seq ?_
      obtain rfl : k = s.reads.length := by omega
      refine SX.region ?_
      refine SXL.loadNo 2 sh_117 rfl rfl (takeAt_full (watC_len (by simp))) ?_
      refine SXL.store 1 sz_117 rfl rfl rfl rfl (watC_len (by simp)) (putAt_all _ _ (watC_len (by simp))) ?_ (watC_one _ _ _ _ _ _)
      refine SXL.nil ?_
      refine thenQ.normal ?_
      refine SX.ret ?_
      refine retQ.one (ResAt.cellNo 1 sh_117 rfl rfl (takeAt_full (watC_len (by simp)))) ?_
      first | rfl | assumption
end Go.Proofs.YtknflipongbngaaDoor

/- The end of the package spring's reckoning. Nothing of Go stands here. -/
namespace Go.S
open Go.X (G)
theorem mu_less {f : Int} {M W : List Int} (hM : M.length = 20) (hS : Sb M) (hne : W ≠ M) (k : Nat) (hk : k ≤ 9) :
    2 * (sumW (psTo f M k) 10).toNat + (if M = psTo f M k then 0 else 1) < 2 * (sumW M 10).toNat + (if W = M then 0 else 1) := by
  rw [if_neg hne]
  obtain ⟨h1, h2⟩ := ps_less (f := f) hM hS k hk
  have p1 := sumW_nonneg h1 10 (Nat.le_refl _)
  have p2 := sumW_nonneg hS 10 (Nat.le_refl _)
  rcases h2 with ⟨_, h2⟩ | h2
  · rw [h2, if_pos rfl]; omega
  · split <;> omega
theorem after_end {s : Sp} (hv : SpP s) {R L : List Int} (hW : RelW s R L) {rain : Int} {W : List Int} (hM : KeepP s.weeks.toNat s.fall (slTo s R rain s.book.length) W)
    (hWM : (∀ j, j < 10 → Lo W j = 0 ∧ Hi W j = 0) ∨ (Sb W ∧ W = psTo s.fall W (s.weeks.toNat - 1) ∧ Alive s.fall W (s.weeks.toNat - 1))) :
    ((∀ w, w < s.weeks.toNat → ¬NoneAt W w) ↔ lvB s L rain) ∧ (lvB s L rain → W = ilv (lvL s L rain)) := by
  have h1 := hv.1; unfold HeadP at h1
  obtain ⟨a1, a2⟩ := after_ok hv hW.lr hW.ll.len hW.sb hW.rel hW.rest rain
  have hnn : (∀ w, w < s.weeks.toNat → ¬NoneAt W w) → lvB s L rain ∧ W = ilv (lvL s L rain) := by
    intro hnn
    have hne : ∀ w, w < s.weeks.toNat → Lo W w ≤ Hi W w := fun w hw => by
      have := hM.sb w (by omega)
      have h3 := hnn w hw
      unfold NoneAt at h3
      omega
    refine a1 W hM ?_ hne
    rcases hWM with hz | ⟨hS, he, _⟩
    · exact stp_zero (by omega) fun w hw => hz w (by omega)
    · obtain ⟨_, h2⟩ := ps_less (f := s.fall) hM.len hS (s.weeks.toNat - 1) (by omega)
      rcases h2 with ⟨h2, _⟩ | h2
      · exact stp_of_same hM.len hS (by omega) (by omega) (fun j hj => ⟨(h2 j (by omega)).1, (h2 j (by omega)).2.1⟩) hne
      · rw [← he] at h2; omega
  have hall : lvB s L rain → ∀ w, w < s.weeks.toNat → ¬NoneAt W w := fun hb w hw hN => a2 W hM w hw hN hb
  exact ⟨⟨fun h => (hnn h).1, hall⟩, fun h => (hnn (hall h)).2⟩
end Go.S

/- Spans in rows; what a rain leaves, handed back. -/
namespace Go.S
open Go Go.X Go.RowKit
def pairs (M : List Int) (n : Nat) : List (List Value) := (List.range n).map fun i => [.int .i64 (Lo M i), .int .i64 (Hi M i)]
@[simp] theorem length_pairs (M : List Int) (n : Nat) : (pairs M n).length = n := by simp [pairs]
variable {w0 w : World} {own : X.Own}
theorem pairAt {ao : Option Addr} {M : List Int} {n : Nat} (h : RowsAt w ao 2 (pairs M n)) {i : Nat} (hi : i < n) :
    ∃ b o, ao = some ⟨b, o, none⟩ ∧ ∀ own, Mem w own b (o + i * 2) [.int .i64 (Lo M i), .int .i64 (Hi M i)] := h.get (by simp [pairs, hi])
theorem ownPairs (hI : Inv w0 own w) {i b : Nat} {M : List Int} {E : TypeId} {fz : Nat × Nat} (hi : own[i]? = some (b, .cells ⟨ints M⟩ E fz)) {n : Nat} (hM : n * 2 ≤ M.length) : RowsAt w (some ⟨b, 0, none⟩) 2 (pairs M n) :=
  RowsAt.ofOwn hI hi fun k r hk j u hj => by
    simp only [pairs, List.getElem?_map, Option.map_eq_some_iff] at hk
    obtain ⟨i', hi', rfl⟩ := hk
    obtain ⟨hlt, he⟩ := List.getElem?_eq_some_iff.1 hi'
    simp at he hlt
    subst he
    match j, hj with
    | 0, hj => simp at hj; subst hj; exact intsAtX rfl (by omega)
    | 1, hj => simp at hj; subst hj; exact intsAtX rfl (by omega)
    | j + 2, hj => simp at hj
/-- What a rain leaves, handed back: all that is told if there is no truth is that there is none. -/
structure AfterR (s : Sp) (L : List Int) (rain : Int) (v : Value) : Prop where
  ex : ∃ M : List Int, M.length = 20 ∧ (lvB s L rain → M = ilv (lvL s L rain)) ∧ v = .tuple ⟨[.agg ⟨ints M⟩, .bool (decide (lvB s L rain))]⟩
end Go.S
namespace Go.S
open Go Go.X
theorem span_none {M : List Int} {k : Nat} : ([1, 0] = [Lo M k, Hi M k]) ↔ NoneAt M k := by
  unfold NoneAt
  constructor
  · intro h
    obtain ⟨h1, h2⟩ := List.cons.inj h
    exact ⟨h1.symm, (List.cons.inj h2).1.symm⟩
  · rintro ⟨h1, h2⟩; rw [h1, h2]
theorem after_bool {M : List Int} {n : Nat} {p : Prop} [Decidable p] (h : (∀ w, w < n → ¬NoneAt M w) ↔ p) : decide (¬0 ≤ idxF (fun k => [1, 0] = [Lo M k, Hi M k]) n) = decide p := by
  refine decide_eq_decide.2 ?_
  rw [← h, idxF_nonneg]
  constructor
  · intro hn w hw hN; exact hn ⟨w, hw, span_none.2 hN⟩
  · rintro hn ⟨w, hw, hN⟩; exact hn w hw (span_none.1 hN)
end Go.S

/- The walks of functions. -/
namespace Go.Proofs.YtknflipongbngaaDoor
open Go.X Go.S Go.RowKit
theorem indexSpans (M : List Int) (n : Nat) (a b : Int) (ao : Option Addr) (c : Nat) (hn : n ≤ 1000) (w : World) (h : RowsAt w ao 2 (pairs M n)) :
    CallsR Tryd.prog 134 [.slice ao n c, .agg ⟨[.int .i64 a, .int .i64 b]⟩] w (fun v _ => v = .int .i64 (idxF (fun k => [a, b] = [Lo M k, Hi M k]) n)) := by
  refine CallsR.of_SX (n := 19) (rs := [.tmp 4]) Tryd.func134 rfl rfl rfl rfl ?_
  show SX _ _ _ ⟨[(0, .slice ao n c), (1, .agg ⟨[.int .i64 a, .int .i64 b]⟩)], [], []⟩
  refine SX.seq ?_
  refine SX.region ?_
  refine SXL.box rfl rfl ?_; intro b0
  refine SXL.assign rfl ?_
  refine SXL.nil ?_
  refine thenQ.normal ?_
  refine SX.seq ?_
  refine SX.seq ?_
  refine SX.region ?_
  refine SXL.move rfl ?_
  refine SXL.len is_179 rfl ?_
  refine SXL.move rfl ?_
  refine SXL.nil ?_
  refine thenQ.normal ?_
  refine SX.block ?_
  refine SX.loopG (α := Nat) [0, 3, 4, 7] rfl (fun k => [(8, .int .i64 ((k : Int)))]) (fun k => []) (fun k => k ≤ n ∧ ∀ i, i < k → ¬[a, b] = [Lo M i, Hi M i]) (fun k => n - k) 0 ⟨Nat.zero_le _, fun _ h => absurd h (Nat.not_lt_zero _)⟩ ⟨rfl, trivial⟩ rfl ?_
  rintro k ⟨hk, hall⟩
  refine SX.seq ?_
  refine SX.region ?_
  refine SXL.lss rfl rfl ?_
  refine SXL.nil ?_
  refine thenQ.normal ?_
  refine SX.seq ?_
  refine SX.condP rfl (fun c9 => ?_) (fun c9 => ?_)
  · refine SX.skip ?_
    refine thenQ.normal ?_
    refine SX.seq ?_
    refine SX.block ?_
    refine SX.seq ?_
    refine SX.region ?_
    refine SXL.move rfl ?_
    refine SXL.assign rfl ?_
    refine SXL.nil ?_
    refine thenQ.normal ?_
    refine SX.seq ?_
    obtain ⟨b2, o, ha, hm⟩ := pairAt h (i := k) (by omega)
    refine SX.draw 6 (by kernel_rfl) (by kernel_rfl) {} ?_
    refine SXA.take 0 6 rfl (by kernel_rfl) rfl ?_
    refine SXL.loadNo 0 sh_23 rfl rfl rfl ?_
    refine SXL.move rfl ?_
    refine SXL.move rfl ?_
    refine SXL.indexR el_179 rfl rfl ha (by omega) ?_
    refine SXL.loadN sh_23 rfl (hm _) rfl ?_
    refine SXL.eqlV (p := [a, b] = [Lo M k, Hi M k]) (u := .agg ⟨ints ([a, b])⟩) (v := .agg ⟨ints ([Lo M k, Hi M k])⟩) rfl rfl (run_eql_ints eq_23 eg_23 sh_23 rfl rfl) ?_
    refine SXL.nil ⟨rfl, rfl, rfl, ?_⟩
    refine SXA.done (by kernel_rfl) ?_
    refine SXL.nil ?_
    refine thenQ.normal ?_
    refine SX.condP rfl (fun c16 => ?_) (fun c16 => ?_)
    · refine SX.seq ?_
      refine SX.region ?_
      refine SXL.move rfl ?_
      refine SXL.assign rfl ?_
      refine SXL.nil ?_
      refine thenQ.normal ?_
      refine SX.ret ?_
      refine blockQ.ret ?_
      refine thenQ.ret ?_
      refine thenQ.ret ?_
      refine blockQ.ret ?_
      refine thenQ.ret ?_
      refine retQ.one (ResAt.tmp rfl) ?_
      exact congrArg (Value.int .i64) (idxF_some (p := fun k => [a, b] = [Lo M k, Hi M k]) (by omega) c16 hall).symm
    · refine SX.skip ?_
      refine blockQ.normal ?_
      refine thenQ.normal ?_
      refine SX.region ?_
      refine SXL.add rfl rfl (by omega) ?_
      refine SXL.move rfl ?_
      refine SXL.nil ?_
      refine thenQ.normal ?_
      refine ⟨k + 1, Meets.mk _ ⟨rfl, trivial⟩ ⟨rfl, rfl, rfl, rfl, trivial⟩ rfl, ?_, (by omega)⟩
      refine ⟨by omega, fun i hi => ?_⟩
      by_cases e : i = k
      · subst e; exact c16
      · exact hall i (by omega)
  · refine SX.exit ?_
    refine thenQ.exit ?_
    refine thenQ.exit ?_
    refine blockQ.exit ?_
    refine thenQ.normal ?_
    refine SX.seq ?_
    refine SX.region ?_
    refine SXL.assign rfl ?_
    refine SXL.nil ?_
    refine thenQ.normal ?_
    refine SX.ret ?_
    refine retQ.one (ResAt.tmp rfl) ?_
    exact congrArg (Value.int .i64) (idxF_none (p := fun k => [a, b] = [Lo M k, Hi M k]) fun i hi => hall i (by omega)).symm
theorem containsSpans (M : List Int) (n : Nat) (a b : Int) (ao : Option Addr) (c : Nat) (hn : n ≤ 1000) (w : World) (h : RowsAt w ao 2 (pairs M n)) :
    CallsR Tryd.prog 130 [.slice ao n c, .agg ⟨[.int .i64 a, .int .i64 b]⟩] w (fun v _ => v = .bool (decide (0 ≤ idxF (fun k => [a, b] = [Lo M k, Hi M k]) n))) := by
  refine CallsR.of_SX (n := 9) (rs := [.tmp 4]) Tryd.func130 rfl rfl rfl rfl ?_
  show SX _ _ _ ⟨[(0, .slice ao n c), (1, .agg ⟨[.int .i64 a, .int .i64 b]⟩)], [], []⟩
  refine SX.seq ?_
  refine SX.region ?_
  refine SXL.box rfl rfl ?_; intro b0
  refine SXL.assign rfl ?_
  refine SXL.nil ?_
  refine thenQ.normal ?_
  refine SX.seq ?_
  refine SX.region ?_
  refine SXL.move rfl ?_
  refine SXL.loadNo 0 sh_23 rfl rfl rfl ?_
  refine SXL.call1 (.int .i64 (idxF (fun k => [a, b] = [Lo M k, Hi M k]) n)) fn_134 rfl (fun w hI => indexSpans M n a b ao c hn _ (h.inv hI)) ?_
  refine SXL.geq rfl rfl ?_
  refine SXL.assign rfl ?_
  refine SXL.nil ?_
  refine thenQ.normal ?_
  refine SX.ret ?_
  refine retQ.one (ResAt.tmp rfl) ?_
  first | rfl | assumption
set_option maxHeartbeats 2000000 in
theorem after_any (s : Sp) (bo ro : Option Addr) (bc rc : Nat) (R : List Int) (L : List Int) (hv : SpP s) (hW : RelW s R L) (rain : Int) (w : World) (hg : Gl w) (hs : SpAt w s bo ro) :
    CallsR Tryd.prog 118 [.agg ⟨watC s bo ro bc rc R⟩, .int .i64 rain] w (fun v _ => AfterR s L rain v) := by
  have hH := hv.1
  unfold HeadP at hH
  have hR := hW.lr
  refine CallsR.of_SX (n := 120) (rs := [.cell 4 114, .tmp 5]) Tryd.func118 rfl rfl rfl rfl ?_
  show SX _ _ _ ⟨[(0, .agg ⟨watC s bo ro bc rc R⟩), (1, .int .i64 rain)], [], []⟩
  refine SX.seq ?_
  refine SX.region ?_
  refine SXL.box rfl rfl ?_; intro b0
  refine SXL.alloc zp_114 ?_; intro b1
  refine SXL.assign rfl ?_
  refine SXL.nil ?_
  refine thenQ.normal ?_
  refine SX.seq ?_
  refine SX.region ?_
  refine SXL.fieldAddr fp_117_1 rfl ?_
  refine SXL.loadNo 0 sh_114 rfl rfl (takeApp 9 rfl (takeAt_full (k := 20) (by simp [hR])) rfl) ?_
  refine SXL.alloc zp_114 ?_; intro b2
  refine SXL.store 2 sz_114 rfl rfl rfl rfl (by simp [hR]) (putAt_all _ _ (by simp [hR])) ?_ (ints_isOne _)
  refine SXL.nil ?_
  refine thenQ.normal ?_
  refine SX.seq ?_
  refine SX.seq ?_
  refine SX.region ?_
  refine SXL.fieldAddr fp_117_0 rfl ?_
  refine SXL.fieldAddr fp_27_5 rfl ?_
  refine SXL.load1o 0 sh_24 rfl rfl rfl ?_
  refine SXL.len is_24 rfl ?_
  refine SXL.move rfl ?_
  refine SXL.nil ?_
  refine thenQ.normal ?_
  refine SX.block ?_
  refine SX.loopG (α := Nat) [1, 2, 4, 5, 6, 17, 18] rfl (fun k => [(19, .int .i64 ((k : Int)))]) (fun k => [(2, (b2, .cells ⟨ints (slTo s R rain k)⟩ 114 (0, 0)))]) (fun k => k ≤ s.book.length) (fun k => s.book.length - k) 0 (Nat.zero_le _) ⟨rfl, trivial⟩ rfl ?_
  rintro k hk
  have hl := slTo_len s R rain k
  have hSk := slTo_sb hv hR hW.sb rain k hk
  refine SX.seq ?_
  refine SX.region ?_
  refine SXL.lss rfl rfl ?_
  refine SXL.nil ?_
  refine thenQ.normal ?_
  refine SX.seq ?_
  refine SX.condP rfl (fun c20 => ?_) (fun c20 => ?_)
  · refine SX.skip ?_
    refine thenQ.normal ?_
    refine SX.seq ?_
    refine SX.block ?_
    refine SX.seq ?_
    obtain ⟨b, o, ha, hm⟩ := hs.lineD (i := k) (by omega)
    have hln := bookD hv.2.1 (k := k) (by omega)
    refine SX.region ?_
    refine SXL.indexR el_24 rfl rfl ha (by omega) ?_
    refine SXL.loadN sh_61 rfl (hm _) rfl ?_
    refine SXL.alloc zp_61 ?_; intro b3
    refine SXL.store 3 sz_61 rfl rfl rfl rfl rfl rfl ?_
    refine SXL.nil ?_
    refine thenQ.normal ?_
    refine SX.seq ?_
    refine SX.region ?_
    refine SXL.fieldAddr fp_61_0 rfl ?_
    refine SXL.fieldAddr fp_23_0 rfl ?_
    refine SXL.load1o 3 sh_3 rfl rfl rfl ?_
    refine SXL.fieldAddr fp_61_0 rfl ?_
    refine SXL.fieldAddr fp_23_1 rfl ?_
    refine SXL.load1o 3 sh_3 rfl rfl rfl ?_
    refine SXL.move rfl ?_
    refine SXL.buildSlice et_35 zp_3 rfl rfl rfl rfl ?_; intro b4
    refine SXL.call1 (.bool (decide (Wi (rain) ((s.book.getD k default).r0) ((s.book.getD k default).r1)))) fn_78 rfl (fun w hI => in1_own hI 4 (rain) ((s.book.getD k default).r0) ((s.book.getD k default).r1) rfl) ?_
    refine SXL.nil ?_
    refine thenQ.normal ?_
    refine SX.condP rfl (fun c31 => ?_) (fun c31 => ?_)
    · refine SX.draw 10 (by kernel_rfl) (by kernel_rfl) {} ?_
      refine SXA.take 0 10 rfl (by kernel_rfl) rfl ?_
      refine SXL.fieldAddr fp_61_1 rfl ?_
      refine SXL.load1o 3 sh_3 rfl rfl rfl ?_
      refine SXL.fieldAddr fp_61_1 rfl ?_
      refine SXL.load1o 3 sh_3 rfl rfl rfl ?_
      refine SXL.indexA el_114 rfl rfl (by omega) ?_
      refine SXL.loadNo 2 sh_23 rfl rfl (ints_take2' (M := (slTo s R rain k)) (i := (s.book.getD k default).wk.toNat) (by omega) (by omega)) ?_
      refine SXL.fieldAddr fp_61_2 rfl ?_
      refine SXL.loadNo 3 sh_23 rfl rfl rfl ?_
      refine SXL.call1 (spanV (bothP (Lo (slTo s R rain k) (s.book.getD k default).wk.toNat) (Hi (slTo s R rain k) (s.book.getD k default).wk.toNat) ((s.book.getD k default).g0) ((s.book.getD k default).g1))) fn_116 rfl (fun w hI => both_any _ _ _ _ _ (hg.inv hI)) ?_
      refine SXL.indexA el_114 rfl rfl (by omega) ?_
      refine SXL.nil ⟨rfl, rfl, rfl, ?_⟩
      refine SXA.done (by kernel_rfl) ?_
      refine SXL.store 2 sz_23 rfl rfl rfl rfl rfl (ints_put2' (M := (slTo s R rain k)) (i := (s.book.getD k default).wk.toNat) (p := bothP (Lo (slTo s R rain k) (s.book.getD k default).wk.toNat) (Hi (slTo s R rain k) (s.book.getD k default).wk.toNat) (s.book.getD k default).g0 (s.book.getD k default).g1) (by omega) (by omega)) ?_
      refine SXL.nil ?_
      refine blockQ.normal ?_
      refine thenQ.normal ?_
      refine SX.region ?_
      refine SXL.add rfl rfl (by omega) ?_
      refine SXL.move rfl ?_
      refine SXL.nil ?_
      refine thenQ.normal ?_
      refine ⟨k + 1, Meets.mk _ ⟨rfl, trivial⟩ ⟨rfl, rfl, rfl, rfl, rfl, rfl, rfl, trivial⟩ (by first | (rw [show slTo s R rain (k + 1) = _ from if_pos c31]; rfl) | (rw [show slTo s R rain (k + 1) = _ from if_neg c31]; rfl)), (by omega), (by omega)⟩
    · refine SX.skip ?_
      refine blockQ.normal ?_
      refine thenQ.normal ?_
      refine SX.region ?_
      refine SXL.add rfl rfl (by omega) ?_
      refine SXL.move rfl ?_
      refine SXL.nil ?_
      refine thenQ.normal ?_
      refine ⟨k + 1, Meets.mk _ ⟨rfl, trivial⟩ ⟨rfl, rfl, rfl, rfl, rfl, rfl, rfl, trivial⟩ (by first | (rw [show slTo s R rain (k + 1) = _ from if_pos c31]; rfl) | (rw [show slTo s R rain (k + 1) = _ from if_neg c31]; rfl)), (by omega), (by omega)⟩
  · refine SX.exit ?_
    refine thenQ.exit ?_
    refine thenQ.exit ?_
    refine blockQ.exit ?_
    refine thenQ.normal ?_
    refine SX.seq ?_
    refine SX.seq ?_
    obtain rfl : k = s.book.length := by omega
    refine SX.region ?_
    refine SXL.buildA ae_114 zp_114 rfl rfl ?_
    refine SXL.alloc zp_114 ?_; intro b3
    refine SXL.store 3 sz_114 rfl rfl rfl rfl rfl rfl ?_
    refine SXL.nil ?_
    refine thenQ.normal ?_
    refine SX.block ?_
    refine SX.loopG (α := Nat × List Int × List Int) [2, 4, 5, 6] rfl (fun ⟨bw, M, W⟩ => [(9, .pointer (some ⟨bw, 0, none⟩))]) (fun ⟨bw, M, W⟩ => [(2, (b2, .cells ⟨ints M⟩ 114 (0, 0))), (3, (bw, .cells ⟨ints W⟩ 114 (0, 0)))]) (fun ⟨bw, M, W⟩ => KeepP s.weeks.toNat s.fall (slTo s R rain s.book.length) M ∧ W.length = 20 ∧ ((∀ j, j < 10 → Lo W j = 0 ∧ Hi W j = 0) ∨ (Sb W ∧ M = psTo s.fall W (s.weeks.toNat - 1) ∧ Alive s.fall W (s.weeks.toNat - 1)))) (fun ⟨bw, M, W⟩ => (2 * (sumW M 10).toNat + if W = M then 0 else 1)) (b3, (slTo s R rain s.book.length), List.replicate 20 0) ⟨keep_start (by simp [hR]) (slTo_sb hv hR hW.sb rain _ (Nat.le_refl _)), by simp, .inl (by decide)⟩ ⟨rfl, trivial⟩ rfl ?_
    rintro ⟨bw, M, W⟩ ⟨hM, hWl, hWM⟩
    have hMl := hM.len
    refine SX.seq ?_
    refine SX.seq ?_
    refine SX.region ?_
    refine SXL.loadNo 3 sh_114 rfl rfl (takeAt_full (by simp [hWl])) ?_
    refine SXL.loadNo 2 sh_114 rfl rfl (takeAt_full (by simp [hMl])) ?_
    refine SXL.neqV (p := W ≠ M) (u := .agg ⟨ints (W)⟩) (v := .agg ⟨ints (M)⟩) rfl rfl (run_neq_ints eq_114 eg_114 sh_114 hWl hMl) ?_
    refine SXL.nil ?_
    refine thenQ.normal ?_
    refine SX.condP rfl (fun c46 => ?_) (fun c46 => ?_)
    · refine SX.skip ?_
      refine thenQ.normal ?_
      refine SX.seq ?_
      refine SX.block ?_
      refine SX.seq ?_
      refine SX.region ?_
      refine SXL.loadNo 2 sh_114 rfl rfl (takeAt_full (by simp [hMl])) ?_
      refine SXL.store 3 sz_114 rfl rfl rfl rfl (by simp [hMl]) (putAt_all _ _ (by simp [hMl, hWl])) ?_ (ints_isOne _)
      refine SXL.nil ?_
      refine thenQ.normal ?_
      refine SX.seq ?_
      refine SX.region ?_
      refine SXL.assign rfl ?_
      refine SXL.nil ?_
      refine thenQ.normal ?_
      refine SX.block ?_
      refine SX.loopG (α := Nat) [2, 4, 5, 6, 9] rfl (fun k => [(10, .int .i64 (((k : Int) + 1)))]) (fun k => [(2, (b2, .cells ⟨ints (psTo s.fall M k)⟩ 114 (0, 0)))]) (fun k => k ≤ s.weeks.toNat - 1 ∧ Alive s.fall M k) (fun k => s.weeks.toNat - 1 - k) 0 ⟨Nat.zero_le _, fun _ h => absurd h (Nat.not_lt_zero _)⟩ ⟨rfl, trivial⟩ rfl ?_
      rintro k ⟨hk, hal⟩
      have hKl : (psTo s.fall M k).length = 20 := by simp [hMl]
      refine SX.seq ?_
      refine SX.seq ?_
      refine SX.region ?_
      refine SXL.move rfl ?_
      refine SXL.fieldAddr fp_117_0 rfl ?_
      refine SXL.fieldAddr fp_27_0 rfl ?_
      refine SXL.load1o 0 sh_3 rfl rfl rfl ?_
      refine SXL.lss rfl rfl ?_
      refine SXL.nil ?_
      refine thenQ.normal ?_
      refine SX.condP rfl (fun c52 => ?_) (fun c52 => ?_)
      · refine SX.skip ?_
        refine thenQ.normal ?_
        refine SX.seq ?_
        refine SX.block ?_
        refine SX.seq ?_
        have hS := (ps_less (f := s.fall) hMl hM.sb k (by omega)).1
        have q0 := hS k (by omega)
        have q1 := hS (k + 1) (by omega)
        refine SX.draw 7 (by kernel_rfl) (by kernel_rfl) {} ?_
        refine SXA.take 0 7 rfl (by kernel_rfl) rfl ?_
        refine SXL.move rfl ?_
        refine SXL.sub rfl rfl (by omega) ?_
        refine SXL.indexA el_114 rfl rfl (by omega) ?_
        refine SXL.move rfl ?_
        refine SXL.indexA el_114 rfl rfl (by omega) ?_
        refine SXL.assign rfl ?_
        refine SXL.assign rfl ?_
        refine SXL.nil ⟨rfl, rfl, rfl, ?_⟩
        refine SXA.done (by kernel_rfl) ?_
        refine SXL.nil ?_
        refine thenQ.normal ?_
        refine SX.seq ?_
        refine SX.draw 19 (by kernel_rfl) (by kernel_rfl) {} ?_
        refine SXA.take 0 19 rfl (by kernel_rfl) rfl ?_
        refine SXL.move rfl ?_
        refine SXL.move rfl ?_
        refine SXL.nilCheck rfl ?_
        refine SXL.loadNo 2 sh_23 rfl rfl (ints_take2' (M := (psTo s.fall M k)) (i := k + 1) (by omega) (by omega)) ?_
        refine SXL.move rfl ?_
        refine SXL.nilCheck rfl ?_
        refine SXL.fieldAddr fp_23_0 rfl ?_
        refine SXL.load1o 2 sh_3 rfl rfl (at_lo (M := (psTo s.fall M k)) (i := k) (by omega) (by omega)) ?_
        refine SXL.fieldAddr fp_117_0 rfl ?_
        refine SXL.fieldAddr fp_27_2 rfl ?_
        refine SXL.load1o 0 sh_3 rfl rfl rfl ?_
        refine SXL.sub rfl rfl (by omega) ?_
        refine SXL.move rfl ?_
        refine SXL.nilCheck rfl ?_
        refine SXL.fieldAddr fp_23_1 rfl ?_
        refine SXL.load1o 2 sh_3 rfl rfl (at_hi (M := (psTo s.fall M k)) (i := k) (by omega) (by omega)) ?_
        refine SXL.buildS pl_23 zp_23 rfl rfl ?_
        refine SXL.call1 (spanV (bothP (Lo (psTo s.fall M k) (k + 1)) (Hi (psTo s.fall M k) (k + 1)) (Lo (psTo s.fall M k) k - s.fall) (Hi (psTo s.fall M k) k))) fn_116 rfl (fun w hI => both_any _ _ _ _ _ (hg.inv hI)) ?_
        refine SXL.nilCheck rfl ?_
        refine SXL.nil ⟨rfl, rfl, rfl, ?_⟩
        refine SXA.done (by kernel_rfl) ?_
        refine SXL.store 2 sz_23 rfl rfl rfl rfl rfl (ints_put2' (M := (psTo s.fall M k)) (i := k + 1) (p := (bothP (Lo (psTo s.fall M k) (k + 1)) (Hi (psTo s.fall M k) (k + 1)) (Lo (psTo s.fall M k) k - s.fall) (Hi (psTo s.fall M k) k))) (by omega) (by omega)) ?_
        refine SXL.nil ?_
        refine thenQ.normal ?_
        refine SX.seq ?_
        have hS1 := (step_less (f := s.fall) hKl hS (k := k) (by omega)).1
        have hl1 : (step1 s.fall (psTo s.fall M k) k).length = 20 := by simp [hMl]
        have u0 := hS1 k (by omega)
        have u1 := hS1 (k + 1) (by omega)
        refine SX.draw 19 (by kernel_rfl) (by kernel_rfl) {} ?_
        refine SXA.take 0 19 rfl (by kernel_rfl) rfl ?_
        refine SXL.move rfl ?_
        refine SXL.move rfl ?_
        refine SXL.nilCheck rfl ?_
        refine SXL.loadNo 2 sh_23 rfl rfl (ints_take2' (M := (step1 s.fall (psTo s.fall M k) k)) (i := k) (by omega) (by omega)) ?_
        refine SXL.move rfl ?_
        refine SXL.nilCheck rfl ?_
        refine SXL.fieldAddr fp_23_0 rfl ?_
        refine SXL.load1o 2 sh_3 rfl rfl (at_lo (M := (step1 s.fall (psTo s.fall M k) k)) (i := k + 1) (by omega) (by omega)) ?_
        refine SXL.move rfl ?_
        refine SXL.nilCheck rfl ?_
        refine SXL.fieldAddr fp_23_1 rfl ?_
        refine SXL.load1o 2 sh_3 rfl rfl (at_hi (M := (step1 s.fall (psTo s.fall M k) k)) (i := k + 1) (by omega) (by omega)) ?_
        refine SXL.fieldAddr fp_117_0 rfl ?_
        refine SXL.fieldAddr fp_27_2 rfl ?_
        refine SXL.load1o 0 sh_3 rfl rfl rfl ?_
        refine SXL.add rfl rfl (by omega) ?_
        refine SXL.buildS pl_23 zp_23 rfl rfl ?_
        refine SXL.call1 (spanV (bothP (Lo (step1 s.fall (psTo s.fall M k) k) k) (Hi (step1 s.fall (psTo s.fall M k) k) k) (Lo (step1 s.fall (psTo s.fall M k) k) (k + 1)) (Hi (step1 s.fall (psTo s.fall M k) k) (k + 1) + s.fall))) fn_116 rfl (fun w hI => both_any _ _ _ _ _ (hg.inv hI)) ?_
        refine SXL.nilCheck rfl ?_
        refine SXL.nil ⟨rfl, rfl, rfl, ?_⟩
        refine SXA.done (by kernel_rfl) ?_
        refine SXL.store 2 sz_23 rfl rfl rfl rfl rfl (ints_put2' (M := (step1 s.fall (psTo s.fall M k) k)) (i := k) (p := (bothP (Lo (step1 s.fall (psTo s.fall M k) k) k) (Hi (step1 s.fall (psTo s.fall M k) k) k) (Lo (step1 s.fall (psTo s.fall M k) k) (k + 1)) (Hi (step1 s.fall (psTo s.fall M k) k) (k + 1) + s.fall))) (by omega) (by omega)) ?_
        refine SXL.nil ?_
        refine thenQ.normal ?_
        refine SX.seq ?_
        have hl2 : (stepM s.fall (psTo s.fall M k) k).length = 20 := by simp [hMl]
        refine SX.draw 12 (by kernel_rfl) (by kernel_rfl) {} ?_
        refine SXA.take 0 12 rfl (by kernel_rfl) rfl ?_
        refine SXL.move rfl ?_
        refine SXL.nilCheck rfl ?_
        refine SXL.loadNo 2 sh_23 rfl rfl (ints_take2' (M := (stepM s.fall (psTo s.fall M k) k)) (i := k) (by omega) (by omega)) ?_
        refine SXL.loadN sh_23 rfl (hg.memN _) rfl ?_
        refine SXL.eqlV (p := [Lo (stepM s.fall (psTo s.fall M k) k) k, Hi (stepM s.fall (psTo s.fall M k) k) k] = [1, 0]) (u := .agg ⟨ints ([Lo (stepM s.fall (psTo s.fall M k) k) k, Hi (stepM s.fall (psTo s.fall M k) k) k])⟩) (v := .agg ⟨ints ([1, 0])⟩) rfl rfl (run_eql_ints eq_23 eg_23 sh_23 rfl rfl) ?_
        refine SXL.move rfl ?_
        apply SXL.orG 5
        case hl => exact rfl
        case hd => exact rfl
        case hg => exact rfl
        case ht =>
          intro c109
          refine SXL.pass rfl rfl rfl ?_
          refine SXL.pass rfl rfl rfl ?_
          refine SXL.pass rfl rfl rfl ?_
          refine SXL.pass rfl rfl rfl ?_
          refine SXL.pass rfl rfl rfl ?_
          exact SXL.nil (segQ.mk (.skip rfl (.skip rfl (.skip rfl (.skip rfl (.skip rfl (.skip rfl (EnvSub.refl _))))))) rfl rfl rfl)
        case hf =>
          intro c109
          refine SXL.move rfl ?_
          refine SXL.nilCheck rfl ?_
          refine SXL.loadNo 2 sh_23 rfl rfl (ints_take2' (M := (stepM s.fall (psTo s.fall M k) k)) (i := k + 1) (by omega) (by omega)) ?_
          refine SXL.loadN sh_23 rfl (hg.memN _) rfl ?_
          refine SXL.eqlV (p := [Lo (stepM s.fall (psTo s.fall M k) k) (k + 1), Hi (stepM s.fall (psTo s.fall M k) k) (k + 1)] = [1, 0]) (u := .agg ⟨ints ([Lo (stepM s.fall (psTo s.fall M k) k) (k + 1), Hi (stepM s.fall (psTo s.fall M k) k) (k + 1)])⟩) (v := .agg ⟨ints ([1, 0])⟩) rfl rfl (run_eql_ints eq_23 eg_23 sh_23 rfl rfl) ?_
          exact SXL.nil (segQ.mk (.skip rfl (.skip rfl (.skip rfl (.skip rfl (.skip rfl (.skip rfl (EnvSub.refl _))))))) rfl rfl ⟨rfl, rfl⟩)
        refine SXL.nil ⟨rfl, rfl, rfl, ?_⟩
        refine SXA.done (by kernel_rfl) ?_
        refine SXL.nil ?_
        refine thenQ.normal ?_
        refine SX.condP rfl (fun c109 => ?_) (fun c109 => ?_)
        · refine SX.seq ?_
          have hno : ¬lvB s L rain := by
            have hk2 := (hM.ps (by omega) (k + 1) (by omega))
            rcases c109 with c109 | c109
            · exact (after_ok hv hR hW.ll.len hW.sb hW.rel hW.rest rain).2 _ hk2 k (by omega) (span_none.1 c109.symm)
            · exact (after_ok hv hR hW.ll.len hW.sb hW.rel hW.rest rain).2 _ hk2 (k + 1) (by omega) (span_none.1 c109.symm)
          refine SX.region ?_
          refine SXL.loadNo 2 sh_114 rfl rfl (takeAt_full (by simp [hMl])) ?_
          refine SXL.store 1 sz_114 rfl rfl rfl rfl (by simp [hMl]) (putAt_all _ _ (by simp [hMl])) ?_ (ints_isOne _)
          refine SXL.assign rfl ?_
          refine SXL.nil ?_
          refine thenQ.normal ?_
          refine SX.ret ?_
          refine blockQ.ret ?_
          refine thenQ.ret ?_
          refine thenQ.ret ?_
          refine blockQ.ret ?_
          refine blockQ.ret ?_
          refine thenQ.ret ?_
          refine thenQ.ret ?_
          refine blockQ.ret ?_
          refine thenQ.ret ?_
          refine retQ.two (ResAt.cellNo 1 sh_114 rfl rfl (takeAt_full (k := 20) (by simp [hMl]))) (ResAt.tmp rfl) ?_
          exact ⟨_, hl2, fun h => absurd h hno, by rw [decide_eq_false hno]; rfl⟩
        · refine SX.skip ?_
          refine blockQ.normal ?_
          refine thenQ.normal ?_
          refine SX.region ?_
          refine SXL.move rfl ?_
          refine SXL.add rfl rfl (by omega) ?_
          refine SXL.assign rfl ?_
          refine SXL.nil ?_
          refine thenQ.normal ?_
          refine ⟨k + 1, Meets.mk _ ⟨rfl, trivial⟩ ⟨rfl, rfl, rfl, rfl, rfl, trivial⟩ rfl, ?_, (by omega)⟩
          refine ⟨by omega, fun j hj => ?_⟩
          by_cases e : j = k
          · subst e; exact ⟨fun h => c109 (.inl (span_none.2 h).symm), fun h => c109 (.inr (span_none.2 h).symm)⟩
          · exact hal j (by omega)
      · refine SX.exit ?_
        refine thenQ.exit ?_
        refine thenQ.exit ?_
        refine blockQ.exit ?_
        refine blockQ.normal ?_
        refine thenQ.normal ?_
        refine SX.seq ?_
        obtain rfl : k = s.weeks.toNat - 1 := by omega
        refine SX.region ?_
        refine SXL.loadNo 3 sh_114 rfl rfl (takeAt_full (by simp [hMl])) ?_
        refine SXL.nil ?_
        refine thenQ.normal ?_
        refine SX.region ?_
        refine SXL.alloc zp_114 ?_; intro b4
        refine SXL.store 4 sz_114 rfl rfl rfl rfl (by simp [hMl]) (putAt_all _ _ (by simp [hMl])) ?_ (ints_isOne _)
        refine SXL.nil ?_
        refine thenQ.normal ?_
        refine ⟨(_, _, _), Meets.mkS [0, 1, 2, 4] ⟨rfl, trivial⟩ ⟨rfl, rfl, rfl, rfl, trivial⟩ rfl, ⟨hM.ps (by omega) _ (by omega), hMl, .inr ⟨hM.sb, rfl, hal⟩⟩, (mu_less hMl hM.sb c46 _ (by omega))⟩
    · refine SX.exit ?_
      refine thenQ.exit ?_
      refine thenQ.exit ?_
      refine blockQ.exit ?_
      refine thenQ.normal ?_
      refine SX.seq ?_
      have c46 := Decidable.not_not.1 c46
      subst c46
      refine SX.draw 10 (by kernel_rfl) (by kernel_rfl) ⟨[1, 2, 3, 4, 5, 7, 9], [true, false]⟩ ?_
      refine SXA.take 0 1 rfl (by kernel_rfl) rfl ?_
      refine SXL.loadNo 2 sh_114 rfl rfl (takeAt_full (by simp [hMl])) ?_
      refine SXL.nil ⟨rfl, rfl, rfl, ?_⟩
      refine SXA.takeM 1 5 rfl (by kernel_rfl) rfl ?_
      refine SXL.fieldAddr fp_117_0 rfl ?_
      refine SXL.fieldAddr fp_27_0 rfl ?_
      refine SXL.load1o 0 sh_3 rfl rfl rfl ?_
      refine SXL.sliceAH el_114 rfl rfl (by omega) ?_
      refine SXL.loadN sh_23 rfl (hg.memN _) rfl ?_
      refine SXL.nil ⟨rfl, rfl, rfl, ?_⟩
      refine SXA.take 6 1 rfl (by kernel_rfl) rfl ?_
      refine SXL.call1 (.bool (decide (0 ≤ idxF (fun k => [1, 0] = [Lo W k, Hi W k]) s.weeks.toNat))) fn_130 rfl (fun w hI => containsSpans W s.weeks.toNat 1 0 _ _ (by omega) _ (ownPairs hI (i := 2) rfl (by omega))) ?_
      refine SXL.nil ⟨rfl, rfl, rfl, ?_⟩
      refine SXA.takeM 7 1 rfl (by kernel_rfl) rfl ?_
      refine SXL.not rfl ?_
      refine SXL.nil ⟨rfl, rfl, rfl, ?_⟩
      refine SXA.all [8] (by kernel_rfl) rfl ⟨⟨?_, rfl⟩, trivial⟩
      refine (show SXL _ _ [_] _ _ from ?_)
      refine SXL.store 1 sz_114 rfl rfl rfl rfl (by simp [hMl]) (putAt_all _ _ (by simp [hMl])) ?_ (ints_isOne _)
      refine SXL.nil (stepQ.mkL _ (by kernel_rfl) rfl rfl ?_)
      refine SXA.takeM 9 1 rfl (by kernel_rfl) rfl ?_
      refine SXL.assign rfl ?_
      refine SXL.nil ⟨rfl, rfl, rfl, ?_⟩
      refine SXA.done (by kernel_rfl) ?_
      refine SXL.nil ?_
      refine thenQ.normal ?_
      refine SX.ret ?_
      refine retQ.two (ResAt.cellNo 1 sh_114 rfl rfl (takeAt_full (k := 20) (by simp [hMl]))) (ResAt.tmp rfl) ?_
      obtain ⟨z1, z2⟩ := after_end hv hW hM hWM; exact ⟨_, hMl, z2, by rw [after_bool z1]⟩
end Go.Proofs.YtknflipongbngaaDoor

/- What all rains leave of each week. Nothing of Go stands here. -/
namespace Go.S
open Go.X (G)
def mk20 (lo hi : Nat → Int) : List Int := (List.range 20).map fun i => if i % 2 = 0 then lo (i / 2) else hi (i / 2)
@[simp] theorem mk20_len (lo hi : Nat → Int) : (mk20 lo hi).length = 20 := by simp [mk20]
theorem mk20_at (lo hi : Nat → Int) {w : Nat} (hw : w < 10) : Lo (mk20 lo hi) w = lo w ∧ Hi (mk20 lo hi) w = hi w := by
  unfold Lo Hi mk20
  constructor
  · have : w * 2 < 20 := by omega
    simp [G, this]
  · have h1 : w * 2 + 1 < 20 := by omega
    have h2 : (w * 2 + 1) % 2 = 1 := by omega
    have h3 : (w * 2 + 1) / 2 = w := by omega
    simp [G, h1, h2, h3]
def oLo (n : Nat) (A : List (List Int)) (i : Nat) : Int := if A = [] ∨ n ≤ i then 0 else hLo A i
def oHi (n : Nat) (A : List (List Int)) (i : Nat) : Int := if A = [] ∨ n ≤ i then 0 else hHi A i
def outL (n : Nat) (A : List (List Int)) : List Int := mk20 (oLo n A) (oHi n A)
theorem hTo_snoc {A : List (List Int)} (X : List Int) (w : Nat) (hA : A ≠ []) : ∀ k, k ≤ A.length → hLoTo (A ++ [X]) w k = hLoTo A w k ∧ hHiTo (A ++ [X]) w k = hHiTo A w k
  | 0, _ => by
    have h0 : 0 < A.length := List.length_pos_iff.2 hA
    have e : (A ++ [X]).getD 0 [] = A.getD 0 [] := by rw [List.getD_eq_getElem?_getD, List.getD_eq_getElem?_getD, List.getElem?_append_left h0]
    simp only [hLoTo, hHiTo, e]; exact ⟨trivial, trivial⟩
  | k + 1, hk => by
    have ih := hTo_snoc X w hA k (by omega)
    have h0 : k < A.length := by omega
    have e : (A ++ [X]).getD k [] = A.getD k [] := by rw [List.getD_eq_getElem?_getD, List.getD_eq_getElem?_getD, List.getElem?_append_left h0]
    simp only [hLoTo, hHiTo, ih.1, ih.2, e]; exact ⟨trivial, trivial⟩
theorem h_snoc {A : List (List Int)} (X : List Int) (w : Nat) : hLo (A ++ [X]) w = (if A = [] then G X w else min (hLo A w) (G X w)) ∧ hHi (A ++ [X]) w = (if A = [] then G X (10 + w) else max (hHi A w) (G X (10 + w))) := by
  by_cases hA : A = []
  · subst hA
    rw [if_pos rfl, if_pos rfl]
    simp [hLo, hHi, hLoTo, hHiTo]
  · rw [if_neg hA, if_neg hA]
    have h := hTo_snoc X w hA A.length (Nat.le_refl _)
    unfold hLo hHi
    rw [show (A ++ [X]).length = A.length + 1 by simp]
    simp only [hLoTo, hHiTo, h.1, h.2]
    simp
/-- One rain more: week j. -/
theorem o_snoc {n : Nat} {A : List (List Int)} (X : List Int) {i : Nat} (hi : i < n) : oLo n (A ++ [X]) i = (if A = [] then G X i else min (oLo n A i) (G X i)) ∧ oHi n (A ++ [X]) i = (if A = [] then G X (10 + i) else max (oHi n A i) (G X (10 + i))) := by
  obtain ⟨h1, h2⟩ := h_snoc (A := A) X i
  unfold oLo oHi
  have hne : ¬((A ++ [X]) = [] ∨ n ≤ i) := by
    rintro (h | h)
    · simp at h
    · omega
  simp only [if_neg hne, h1, h2]
  by_cases hA : A = []
  · simp only [if_pos hA]; exact ⟨trivial, trivial⟩
  · have hne2 : ¬(A = [] ∨ n ≤ i) := by
      rintro (h | h)
      · exact hA h
      · omega
    simp only [if_neg hA, if_neg hne2]; exact ⟨trivial, trivial⟩
theorem o_rest {n : Nat} {A : List (List Int)} {i : Nat} (hi : n ≤ i) : oLo n A i = 0 ∧ oHi n A i = 0 := by
  unfold oLo oHi
  rw [if_pos (.inr hi), if_pos (.inr hi)]; exact ⟨rfl, rfl⟩
/-- M holds what the rains of A leave. -/
structure IsO (n : Nat) (A : List (List Int)) (M : List Int) : Prop where
  len : M.length = 20
  at_ : ∀ i, i < 10 → Lo M i = oLo n A i ∧ Hi M i = oHi n A i
theorem IsO.eq {n : Nat} {A : List (List Int)} {M : List Int} (h : IsO n A M) : M = outL n A :=
  list_ext20 h.len (by simp [outL]) fun j hj => by
    obtain ⟨h1, h2⟩ := mk20_at (oLo n A) (oHi n A) hj
    have := h.at_ j hj
    rw [this.1, this.2]; exact ⟨h1.symm, h2.symm⟩
theorem IsO.zero (n : Nat) : IsO n [] (List.replicate 20 0) := ⟨by simp, fun i hi => by
  have h : ∀ i, i < 10 → G (List.replicate 20 (0 : Int)) (i * 2) = 0 ∧ G (List.replicate 20 (0 : Int)) (i * 2 + 1) = 0 := by decide
  have := h i hi
  simp only [Lo, Hi, this.1, this.2, oLo, oHi, true_or, if_true, and_self]⟩
/-- Weeks below j have the new rain. -/
structure MidO (n : Nat) (A : List (List Int)) (X : List Int) (j : Nat) (M : List Int) : Prop where
  len : M.length = 20
  new_ : ∀ i, i < j → i < 10 → Lo M i = oLo n (A ++ [X]) i ∧ Hi M i = oHi n (A ++ [X]) i
  old_ : ∀ i, j ≤ i → i < 10 → Lo M i = oLo n A i ∧ Hi M i = oHi n A i
theorem IsO.mid {n : Nat} {A : List (List Int)} {M : List Int} (h : IsO n A M) (X : List Int) : MidO n A X 0 M := ⟨h.len, fun i hi => absurd hi (Nat.not_lt_zero _), fun i _ hi => h.at_ i hi⟩
theorem MidO.done {n : Nat} {A : List (List Int)} {X M : List Int} (h : MidO n A X n M) : IsO n (A ++ [X]) M := ⟨h.len, fun i hi => by
  by_cases e : i < n
  · exact h.new_ i e hi
  · have a := h.old_ i (by omega) hi
    have b := o_rest (A := A) (show n ≤ i by omega); have c := o_rest (A := A ++ [X]) (show n ≤ i by omega)
    omega⟩
theorem MidO.next {n : Nat} {A : List (List Int)} {X M M3 : List Int} {j : Nat} (h : MidO n A X j M) (hj : j < n) (hn : n ≤ 10) (h3 : M3 = if A = [] then set2 M j (G X j, G X (10 + j)) else M) :
    MidO n A X (j + 1) (set2 M3 j (min (Lo M3 j) (G X j), max (Hi M3 j) (G X (10 + j)))) := by
  have hl : M3.length = 20 := by rw [h3]; split <;> simp [h.len]
  have hs := o_snoc (A := A) X hj
  have hold := h.old_ j (Nat.le_refl _) (by omega)
  have e3 : Lo M3 j = (if A = [] then G X j else oLo n A j) ∧ Hi M3 j = (if A = [] then G X (10 + j) else oHi n A j) := by
    rw [h3]
    by_cases hA : A = []
    · rw [if_pos hA, if_pos hA, if_pos hA]
      obtain ⟨a, b⟩ := set2_at h.len (i := j) (j := j) (by omega) (by omega) (G X j, G X (10 + j))
      rw [a, b, if_pos rfl, if_pos rfl]; exact ⟨rfl, rfl⟩
    · rw [if_neg hA, if_neg hA, if_neg hA]; exact hold
  have e4 : ∀ i, i < 10 → i ≠ j → Lo M3 i = Lo M i ∧ Hi M3 i = Hi M i := fun i hi hne => by
    rw [h3]
    by_cases hA : A = []
    · rw [if_pos hA]
      obtain ⟨a, b⟩ := set2_at h.len (i := j) (j := i) (by omega) hi (G X j, G X (10 + j))
      rw [a, b, if_neg (Ne.symm hne), if_neg (Ne.symm hne)]; exact ⟨rfl, rfl⟩
    · rw [if_neg hA]; exact ⟨rfl, rfl⟩
  refine ⟨by simp [hl], fun i hi h10 => ?_, fun i hi h10 => ?_⟩
  · obtain ⟨a, b⟩ := set2_at hl (i := j) (j := i) (by omega) h10 (min (Lo M3 j) (G X j), max (Hi M3 j) (G X (10 + j)))
    rw [a, b]
    by_cases e : j = i
    · subst e
      rw [if_pos rfl, if_pos rfl, hs.1, hs.2, e3.1, e3.2]
      by_cases hA : A = []
      · simp only [if_pos hA]; omega
      · simp only [if_neg hA]; exact ⟨trivial, trivial⟩
    · rw [if_neg e, if_neg e, (e4 i h10 (Ne.symm e)).1, (e4 i h10 (Ne.symm e)).2]
      exact h.new_ i (by omega) h10
  · obtain ⟨a, b⟩ := set2_at hl (i := j) (j := i) (by omega) h10 (min (Lo M3 j) (G X j), max (Hi M3 j) (G X (10 + j)))
    rw [a, b, if_neg (by omega), if_neg (by omega), (e4 i h10 (by omega)).1, (e4 i h10 (by omega)).2]
    exact h.old_ i (by omega) h10
end Go.S

/- The walks of functions. -/
namespace Go.Proofs.YtknflipongbngaaDoor
open Go.X Go.S Go.RowKit
/-- The iterator of the rains. -/
structure ItR (s : Sp) (bo ro : Option Addr) (bc rc : Nat) (R : List Int) (v : Value) (own : X.Own) : Prop where
  ex : ∃ b, v = .func (.func 117) ⟨[]⟩ ⟨[.pointer (some ⟨b, 0, none⟩)]⟩ ∧ own = [(b, .cells ⟨watC s bo ro bc rc R⟩ 117 (0, 0))]
theorem it_any (s : Sp) (bo ro : Option Addr) (bc rc : Nat) (R : List Int) (hR : R.length = 20) (w : World) :
    CallsR Tryd.prog 76 [.agg ⟨watC s bo ro bc rc R⟩] w (ItR s bo ro bc rc R) := by
  refine CallsR.of_SX (n := 4) (rs := [.tmp 2]) Tryd.func76 rfl rfl rfl rfl ?_
  show SX _ _ _ ⟨[(0, .agg ⟨watC s bo ro bc rc R⟩)], [], []⟩
  refine SX.seq ?_
  refine SX.region ?_
  refine SXL.box rfl rfl ?_; intro b0
  refine SXL.assign rfl ?_
  refine SXL.nil ?_
  refine thenQ.normal ?_
  refine SX.seq ?_
  refine SX.region ?_
  refine SXL.makeFunc rfl rfl ?_
  refine SXL.assign rfl ?_
  refine SXL.nil ?_
  refine thenQ.normal ?_
  refine SX.ret ?_
  refine retQ.one (ResAt.tmp rfl) ?_
  exact ⟨b0, rfl, rfl⟩
set_option maxHeartbeats 4000000 in
theorem spans_any (s : Sp) (bo ro : Option Addr) (bc rc : Nat) (R : List Int) (L : List Int) (hv : SpP s) (hW : RelW s R L) (w : World) (hg : Gl w) (hs : SpAt w s bo ro) :
    CallsR Tryd.prog 73 [.agg ⟨watC s bo ro bc rc R⟩] w (fun v _ => v = .tuple ⟨[.agg ⟨ints (outL s.weeks.toNat (lvsL s L (rnsL s L)))⟩, .bool (decide (rnsL s L ≠ []))]⟩) := by
  have hH := hv.1
  unfold HeadP at hH
  have hR := hW.lr
  refine CallsR.of_SX (n := 50) (rs := [.cell 2 114, .tmp 3]) Tryd.func73 rfl rfl rfl rfl ?_
  show SX _ _ _ ⟨[(0, .agg ⟨watC s bo ro bc rc R⟩)], [], []⟩
  refine SX.seq ?_
  refine SX.region ?_
  refine SXL.box rfl rfl ?_; intro b0
  refine SXL.alloc zp_114 ?_; intro b1
  refine SXL.assign rfl ?_
  refine SXL.nil ?_
  refine thenQ.normal ?_
  refine SX.seq ?_
  refine SX.region ?_
  refine SXL.alloc zp_114 ?_; intro b2
  refine SXL.nil ?_
  refine thenQ.normal ?_
  refine SX.seq ?_
  refine SX.region ?_
  refine SXL.alloc zp_4 ?_; intro b3
  refine SXL.store 3 sz_4 rfl rfl rfl rfl rfl rfl ?_
  refine SXL.nil ?_
  refine thenQ.normal ?_
  refine SX.seq ?_
  refine SX.seq ?_
  refine SX.region ?_
  refine SXL.loadNo 0 sh_117 rfl rfl (takeAt_full (watC_len hR)) ?_
  refine SXL.callF (ItR s bo ro bc rc R) fn_76 rfl (fun w hI => it_any s bo ro bc rc R hR w) ?_; rintro _ _ ⟨bi, rfl, rfl⟩
  refine SXL.nil ?_
  refine thenQ.normal ?_
  refine SX.block ?_
  refine SX.rangeFunc (f := 117) (nf := 31) (rs := []) rfl fn_117 Tryd.func117 rfl rfl rfl rfl ?_
  intro fn T r l ob hT hob
  refine SX.scope ?_
  refine SX.seq ?_
  refine SX.label ?_
  refine thenQ.normal ?_
  refine SX.seq ?_
  refine SX.region ?_
  refine SXL.fieldAddr fp_117_0 rfl ?_
  refine SXL.fieldAddr fp_27_4 rfl ?_
  refine SXL.fieldAddr fp_23_0 rfl ?_
  refine SXL.load1o 4 sh_3 rfl rfl rfl ?_
  refine SXL.assign rfl ?_
  refine SXL.nil ?_
  refine thenQ.normal ?_
  refine SX.block ?_
  refine SX.loopG (α := Nat × List Int) [0, 1] rfl (fun ⟨k, M⟩ => [(3, .int .i64 (s.w0 + (k : Int)))]) (fun ⟨k, M⟩ => [(2, (b2, .cells ⟨ints M⟩ 114 (0, 0))), (3, (b3, .cells ⟨[.bool (decide ((rnsTo s L k) ≠ []))]⟩ 4 (0, 0)))]) (fun ⟨k, M⟩ => k ≤ rnN s ∧ IsO s.weeks.toNat (lvsL s L (rnsTo s L k)) M) (fun ⟨k, M⟩ => (rnN s - k)) (0, List.replicate 20 0) ⟨Nat.zero_le _, IsO.zero _⟩ ⟨congrArg (fun z => some (Value.int .i64 z)) (show s.w0 = s.w0 + ((0 : Nat) : Int) by omega), trivial⟩ rfl ?_
  rintro ⟨k, M⟩ ⟨hk, hM⟩
  have hMl := hM.len
  have hN : rnN s = (s.w1 + 1 - s.w0).toNat := rfl
  refine SX.seq ?_
  refine SX.seq ?_
  refine SX.region ?_
  refine SXL.move rfl ?_
  refine SXL.fieldAddr fp_117_0 rfl ?_
  refine SXL.fieldAddr fp_27_4 rfl ?_
  refine SXL.fieldAddr fp_23_1 rfl ?_
  refine SXL.load1o 4 sh_3 rfl rfl rfl ?_
  refine SXL.leq rfl rfl ?_
  refine SXL.nil ?_
  refine thenQ.normal ?_
  refine SX.condP rfl (fun c15 => ?_) (fun c15 => ?_)
  · refine SX.skip ?_
    refine thenQ.normal ?_
    refine SX.seq ?_
    refine SX.block ?_
    refine SX.seq ?_
    refine SX.region ?_
    refine SXL.loadNo 4 sh_117 rfl rfl (takeAt_full (watC_len hR)) ?_
    refine SXL.move rfl ?_
    refine SXL.callP (AfterR s L (s.w0 + (k : Int))) fn_118 rfl (fun w hI => after_any s bo ro bc rc R L hv hW _ w (hg.inv hI) (hs.inv hI)) ?_; rintro _ ⟨X, hX1, hX2, rfl⟩
    refine SXL.move rfl ?_
    refine SXL.extract rfl rfl ?_
    refine SXL.extract rfl rfl ?_
    refine SXL.alloc zp_114 ?_; intro b7
    refine SXL.store 7 sz_114 rfl rfl rfl rfl (by simp [hX1]) (putAt_all _ _ (by simp [hX1])) ?_ (ints_isOne _)
    refine SXL.assign rfl ?_
    refine SXL.nil ?_
    refine thenQ.normal ?_
    refine SX.seq ?_
    refine SX.seq ?_
    refine SX.region ?_
    refine SXL.move rfl ?_
    refine SXL.not rfl ?_
    refine SXL.nil ?_
    refine thenQ.normal ?_
    refine SX.condP rfl (fun c25 => ?_) (fun c25 => ?_)
    · refine SX.exit ?_
      refine thenQ.exit ?_
      refine blockQ.exit ?_
      refine thenQ.normal ?_
      refine SX.region ?_
      refine SXL.move rfl ?_
      refine SXL.add rfl rfl (by omega) ?_
      refine SXL.assign rfl ?_
      refine SXL.nil ?_
      refine thenQ.normal ?_
      refine ⟨(k + 1, _), Meets.mk _ ⟨congrArg (fun z => some (Value.int .i64 z)) (show s.w0 + (k : Int) + 1 = s.w0 + ((k + 1 : Nat) : Int) by omega), trivial⟩ ⟨rfl, rfl, trivial⟩ (by show setAll _ (_ :: [(3, (b3, .cells ⟨[.bool (decide (rnsTo s L (k + 1) ≠ []))]⟩ 4 (0, 0)))]) ++ _ = _; first | (rw [decide_eq_true (p := rnsTo s L (k + 1) ≠ []) (by rw [rnsTo_yes hlv]; simp)]; rfl) | (rw [show rnsTo s L (k + 1) = _ from rnsTo_no c25]; rfl)), ?_, ?_⟩
      · refine ⟨by omega, ?_⟩
        first
          | exact (by rw [rnsTo_yes hlv]; simpa [lvsL] using hMd.done)
          | exact (by rw [rnsTo_no c25]; exact hM)
      · show rnN s - (k + 1) < rnN s - k; omega
    · refine SX.skip ?_
      refine thenQ.normal ?_
      refine SX.seq ?_
      have hlv := Decidable.not_not.1 c25
      obtain rfl := hX2 hlv
      refine SX.region ?_
      refine SXL.move rfl ?_
      refine SXL.move rfl ?_
      refine SXL.loadNo 7 sh_114 rfl rfl (takeAt_full (by simp)) ?_
      refine SXL.yield hT hob 6 rfl rfl rfl rfl rfl ?_
      refine SX.region ?_
      refine SXL.alloc zp_114 ?_; intro b8
      refine SXL.store 8 sz_114 rfl rfl rfl rfl (by simp) (putAt_all _ _ (by simp)) ?_ (ints_isOne _)
      refine SXL.nil ?_
      refine ⟨rfl, ?_⟩
      refine SX.block ?_
      refine SX.seq ?_
      refine SX.seq ?_
      refine SX.region ?_
      refine SXL.fieldAddr fp_117_0 rfl ?_
      refine SXL.fieldAddr fp_27_0 rfl ?_
      refine SXL.load1o 0 sh_3 rfl rfl rfl ?_
      refine SXL.move rfl ?_
      refine SXL.nil ?_
      refine thenQ.normal ?_
      refine SX.block ?_
      refine SX.loopG (α := Nat × List Int) [2, 3, 4, 5, 7, 15] rfl (fun ⟨j, M2⟩ => [(16, .int .i64 ((j : Int)))]) (fun ⟨j, M2⟩ => [(2, (b2, .cells ⟨ints M2⟩ 114 (0, 0)))]) (fun ⟨j, M2⟩ => j ≤ s.weeks.toNat ∧ MidO s.weeks.toNat (lvsL s L (rnsTo s L k)) (lvL s L (s.w0 + (k : Int))) j M2) (fun ⟨j, M2⟩ => s.weeks.toNat - j) (0, M) ⟨Nat.zero_le _, hM.mid _⟩ ⟨rfl, trivial⟩ rfl ?_
      rintro ⟨j, M2⟩ ⟨hj, hMd⟩
      have hM2l := hMd.len
      refine SX.seq ?_
      refine SX.region ?_
      refine SXL.lss rfl rfl ?_
      refine SXL.nil ?_
      refine thenQ.normal ?_
      refine SX.seq ?_
      refine SX.condP rfl (fun c17 => ?_) (fun c17 => ?_)
      · refine SX.skip ?_
        refine thenQ.normal ?_
        refine SX.seq ?_
        refine SX.block ?_
        refine SX.seq ?_
        refine SX.region ?_
        refine SXL.move rfl ?_
        refine SXL.assign rfl ?_
        refine SXL.nil ?_
        refine thenQ.normal ?_
        refine SX.cutG (α := List Int) [2, 3, 4, 5, 7, 8, 15, 16] rfl (fun M3 => []) (fun M3 => [(2, (b2, .cells ⟨ints M3⟩ 114 (0, 0)))]) (fun M3 => M3 = if (lvsL s L (rnsTo s L k)) = [] then set2 M2 j (G (lvL s L (s.w0 + (k : Int))) j, G (lvL s L (s.w0 + (k : Int))) (10 + j)) else M2) ?_ ?_
        · refine SX.seq ?_
          obtain ⟨x1, x2⟩ := ilv_at (lvL s L (s.w0 + (k : Int))) (w := j) (by omega)
          have hAe : (lvsL s L (rnsTo s L k)) = [] ↔ (rnsTo s L k) = [] := by simp [lvsL]
          refine SX.region ?_
          refine SXL.load1o 3 sh_4 rfl rfl rfl ?_
          refine SXL.not rfl ?_
          refine SXL.nil ?_
          refine thenQ.normal ?_
          refine SX.condP rfl (fun c20 => ?_) (fun c20 => ?_)
          · refine SX.region ?_
            refine SXL.move rfl ?_
            refine SXL.move rfl ?_
            refine SXL.indexA el_114 rfl rfl (by omega) ?_
            refine SXL.loadNo 8 sh_23 rfl rfl (ints_take2' (M := (ilv (lvL s L (s.w0 + (k : Int))))) (i := j) (by omega) (by omega)) ?_
            refine SXL.indexA el_114 rfl rfl (by omega) ?_
            refine SXL.store 2 sz_23 rfl rfl rfl rfl rfl (ints_put2' (M := M2) (i := j) (p := (Lo (ilv (lvL s L (s.w0 + (k : Int)))) j, Hi (ilv (lvL s L (s.w0 + (k : Int)))) j)) (by omega) (by omega)) ?_
            refine SXL.nil ?_
            refine thenQ.normal ?_
            refine ⟨_, Meets.mk _ trivial ⟨rfl, rfl, rfl, rfl, rfl, rfl, rfl, rfl, trivial⟩ rfl, (by first | (rw [if_pos (hAe.2 (Decidable.not_not.1 c20)), x1, x2]) | (rw [if_neg (fun h => c20 (fun h2 => h2 (hAe.1 h)))]))⟩
          · refine SX.skip ?_
            refine thenQ.normal ?_
            refine ⟨_, Meets.mk _ trivial ⟨rfl, rfl, rfl, rfl, rfl, rfl, rfl, rfl, trivial⟩ rfl, (by first | (rw [if_pos (hAe.2 (Decidable.not_not.1 c20)), x1, x2]) | (rw [if_neg (fun h => c20 (fun h2 => h2 (hAe.1 h)))]))⟩
        rintro M3 hM3
        have hM3l : M3.length = 20 := by rw [hM3]; split <;> simp [hM2l]
        obtain ⟨x1, x2⟩ := ilv_at (lvL s L (s.w0 + (k : Int))) (w := j) (by omega)
        refine SX.draw 21 (by kernel_rfl) (by kernel_rfl) {} ?_
        refine SXA.take 0 21 rfl (by kernel_rfl) rfl ?_
        refine SXL.move rfl ?_
        refine SXL.move rfl ?_
        refine SXL.indexA el_114 rfl rfl (by omega) ?_
        refine SXL.fieldAddr fp_23_0 rfl ?_
        refine SXL.load1o 2 sh_3 rfl rfl (at_lo (M := M3) (i := j) (by omega) (by omega)) ?_
        refine SXL.move rfl ?_
        refine SXL.indexA el_114 rfl rfl (by omega) ?_
        refine SXL.fieldAddr fp_23_0 rfl ?_
        refine SXL.load1o 8 sh_3 rfl rfl (at_lo (M := (ilv (lvL s L (s.w0 + (k : Int))))) (i := j) (by omega) (by omega)) ?_
        refine SXL.min rfl rfl ?_
        refine SXL.move rfl ?_
        refine SXL.indexA el_114 rfl rfl (by omega) ?_
        refine SXL.fieldAddr fp_23_1 rfl ?_
        refine SXL.load1o 2 sh_3 rfl rfl (at_hi (M := M3) (i := j) (by omega) (by omega)) ?_
        refine SXL.move rfl ?_
        refine SXL.indexA el_114 rfl rfl (by omega) ?_
        refine SXL.fieldAddr fp_23_1 rfl ?_
        refine SXL.load1o 8 sh_3 rfl rfl (at_hi (M := (ilv (lvL s L (s.w0 + (k : Int))))) (i := j) (by omega) (by omega)) ?_
        refine SXL.max rfl rfl ?_
        refine SXL.buildS pl_23 zp_23 rfl rfl ?_
        refine SXL.indexA el_114 rfl rfl (by omega) ?_
        refine SXL.nil ⟨rfl, rfl, rfl, ?_⟩
        refine SXA.done (by kernel_rfl) ?_
        refine SXL.store 2 sz_23 rfl rfl rfl rfl rfl (ints_put2' (M := M3) (i := j) (p := (min (Lo M3 j) (Lo (ilv (lvL s L (s.w0 + (k : Int)))) j), max (Hi M3 j) (Hi (ilv (lvL s L (s.w0 + (k : Int)))) j))) (by omega) (by omega)) ?_
        refine SXL.nil ?_
        refine blockQ.normal ?_
        refine thenQ.normal ?_
        refine SX.region ?_
        refine SXL.add rfl rfl (by omega) ?_
        refine SXL.move rfl ?_
        refine SXL.nil ?_
        refine thenQ.normal ?_
        refine ⟨(j + 1, _), Meets.mk _ ⟨rfl, trivial⟩ ⟨rfl, rfl, rfl, rfl, rfl, rfl, trivial⟩ rfl, ⟨by omega, by rw [x1, x2]; exact hMd.next (by omega) (by omega) hM3⟩, (show s.weeks.toNat - (j + 1) < s.weeks.toNat - j by omega)⟩
      · refine SX.exit ?_
        refine thenQ.exit ?_
        refine thenQ.exit ?_
        refine blockQ.exit ?_
        refine thenQ.normal ?_
        obtain rfl : j = s.weeks.toNat := by omega
        refine SX.region ?_
        refine SXL.store 3 sz_4 rfl rfl rfl rfl rfl rfl ?_
        refine SXL.nil ?_
        refine blockQ.normal ?_
        refine ⟨rfl, ?_⟩
        refine SXL.not rfl ?_
        refine SXL.nil ?_
        refine thenQ.normal ?_
        refine SX.condP rfl (fun c30 => ?_) (fun c30 => ?_)
        · exfalso; exact c30 trivial
        refine SX.skip ?_
        refine blockQ.normal ?_
        refine thenQ.normal ?_
        refine SX.region ?_
        refine SXL.move rfl ?_
        refine SXL.add rfl rfl (by omega) ?_
        refine SXL.assign rfl ?_
        refine SXL.nil ?_
        refine thenQ.normal ?_
        refine ⟨(k + 1, _), Meets.mk _ ⟨congrArg (fun z => some (Value.int .i64 z)) (show s.w0 + (k : Int) + 1 = s.w0 + ((k + 1 : Nat) : Int) by omega), trivial⟩ ⟨rfl, rfl, trivial⟩ (by show setAll _ (_ :: [(3, (b3, .cells ⟨[.bool (decide (rnsTo s L (k + 1) ≠ []))]⟩ 4 (0, 0)))]) ++ _ = _; first | (rw [decide_eq_true (p := rnsTo s L (k + 1) ≠ []) (by rw [rnsTo_yes hlv]; simp)]; rfl) | (rw [show rnsTo s L (k + 1) = _ from rnsTo_no c25]; rfl)), ?_, ?_⟩
        · refine ⟨by omega, ?_⟩
          first
            | exact (by rw [rnsTo_yes hlv]; simpa [lvsL] using hMd.done)
            | exact (by rw [rnsTo_no c25]; exact hM)
        · show rnN s - (k + 1) < rnN s - k; omega
  · refine SX.exit ?_
    refine thenQ.exit ?_
    refine thenQ.exit ?_
    refine blockQ.exit ?_
    refine scopeQ.normal ?_
    refine retQ.zeroN ?_
    refine ⟨6, rfl, ?_⟩
    refine blockQ.normal ?_
    refine thenQ.normal ?_
    refine SX.seq ?_
    obtain rfl : k = rnN s := by omega
    refine SX.draw 4 (by kernel_rfl) (by kernel_rfl) ⟨[1, 3], [true, false]⟩ ?_
    refine SXA.take 0 1 rfl (by kernel_rfl) rfl ?_
    refine SXL.loadNo 2 sh_114 rfl rfl (takeAt_full (by simp [hMl])) ?_
    refine SXL.nil ⟨rfl, rfl, rfl, ?_⟩
    refine SXA.takeM 1 1 rfl (by kernel_rfl) rfl ?_
    refine SXL.load1o 2 sh_4 rfl rfl rfl ?_
    refine SXL.nil ⟨rfl, rfl, rfl, ?_⟩
    refine SXA.all [2] (by kernel_rfl) rfl ⟨⟨?_, rfl⟩, trivial⟩
    refine (show SXL _ _ [_] _ _ from ?_)
    refine SXL.store 1 sz_114 rfl rfl rfl rfl (by simp [hMl]) (putAt_all _ _ (by simp [hMl])) ?_ (ints_isOne _)
    refine SXL.nil (stepQ.mkL _ (by kernel_rfl) rfl rfl ?_)
    refine SXA.takeM 3 1 rfl (by kernel_rfl) rfl ?_
    refine SXL.assign rfl ?_
    refine SXL.nil ⟨rfl, rfl, rfl, ?_⟩
    refine SXA.done (by kernel_rfl) ?_
    refine SXL.nil ?_
    refine thenQ.normal ?_
    refine SX.ret ?_
    refine retQ.unmark 5 rfl ?_
    refine retQ.two (ResAt.cellNo 1 sh_114 rfl rfl (takeAt_full (k := 20) (by simp [hMl]))) (ResAt.tmp rfl) ?_
    rw [show M = _ from hM.eq]; rfl
end Go.Proofs.YtknflipongbngaaDoor

/- The calculus' rules: sums that may turn over. Nothing of the program stands here. -/
namespace Go.X
open Go Go.RowKit
section
variable {C : Cx} {Q : Post} {env : Env} {own : Own} {D : List Deferred} {ops : Array Oper} {rest : List Oper}
variable {d : Nat} {ty : TypeId} {pos : String} {aft : Array Edge} {g : Option (Nat × Bool)} {x y : Operand} {T T' : TypeId} {A B : Int}
theorem SXL.subW (hx : ev env x = some (.int .i64 A)) (hy : ev env y = some (.int .i64 B))
    (h : SXL C ops rest Q ⟨(d, .int .i64 (IntKind.i64.wrap (A - B))) :: env, own, D⟩) (hd : Nat.blt d C.n = true := by rfl) (hw : Wanted ops g env = some true := by rfl) :
    SXL C ops ({ dst := some d, op := .binOp .sub T x y T', type := ty, pos, after := aft, guard := g } :: rest) Q ⟨env, own, D⟩ :=
  SXL.bin hx hy (r := .int .i64 (IntKind.i64.wrap (A - B))) (fun w => rfl) hd hw h
theorem wrap_in {A : Int} (h : -9223372036854775808 ≤ A ∧ A ≤ 9223372036854775807) : IntKind.i64.wrap A = A := IntWalk.i64_in _ h
end
end Go.X

/- What the package spring is asked, handed back. -/
namespace Go.S
open Go Go.X
def askE (s : Sp) (p : Prop) [Decidable p] (e : Int) : Int := if ¬SpP s then 10 else if ¬p then e else if TrueP s then 0 else 8
def outA (s : Sp) : List Int := outL s.weeks.toNat (lvsL s (baseL s) (rnsL s (baseL s)))
structure AskR (s : Sp) (bo ro : Option Addr) (bc rc : Nat) (p : Prop) [Decidable p] (e : Int) (v : Value) : Prop where
  ex : ∃ W O, W.length = 29 ∧ W.all isOne = true ∧ O.length = 20 ∧ v = .tuple ⟨[.agg ⟨W⟩, .agg ⟨ints O⟩, .int .i64 (askE s p e)]⟩ ∧ (SpP s → p → TrueP s → W = watC s bo ro bc rc (flL s) ∧ O = outA s)
end Go.S
namespace Go.S
open Go Go.X
theorem askE_told {s : Sp} {week : Int} {p : Prop} [Decidable p] (hp : SpP s → (p ↔ Wi week 0 (s.weeks - 1))) : askE s p 11 = toldE s week := by
  unfold askE toldE TrueP
  by_cases hv : SpP s
  · have hq := hp hv
    by_cases h : p
    · have hw := hq.1 h
      by_cases ht : rnsL s (baseL s) = []
      · rw [if_neg (c := ¬SpP s) (fun hn => hn hv), if_neg (c := ¬SpP s) (fun hn => hn hv), if_neg (c := ¬p) (fun hn => hn h), if_neg (c := ¬Wi week 0 (s.weeks - 1)) (fun hn => hn hw), if_pos ht, if_neg (fun hn => hn ht)]
      · rw [if_neg (c := ¬SpP s) (fun hn => hn hv), if_neg (c := ¬SpP s) (fun hn => hn hv), if_neg (c := ¬p) (fun hn => hn h), if_neg (c := ¬Wi week 0 (s.weeks - 1)) (fun hn => hn hw), if_neg ht, if_pos ht]
    · have hw : ¬Wi week 0 (s.weeks - 1) := fun hn => h (hq.2 hn)
      rw [if_neg (c := ¬SpP s) (fun hn => hn hv), if_neg (c := ¬SpP s) (fun hn => hn hv), if_pos h, if_pos hw]
  · rw [if_pos hv, if_pos hv]
theorem outA_at {s : Sp} {week : Int} (h : toldE s week = 0) : Lo (outA s) week.toNat = givesLo s week ∧ Hi (outA s) week.toNat = givesHi s week := by
  obtain ⟨hv, hw, ht⟩ := toldE_valid h
  have h1 := hv.1; unfold HeadP at h1
  obtain ⟨a, b⟩ := mk20_at (oLo s.weeks.toNat (lvsL s (baseL s) (rnsL s (baseL s)))) (oHi s.weeks.toNat (lvsL s (baseL s) (rnsL s (baseL s)))) (w := week.toNat) (by omega)
  have hA : ¬(lvsL s (baseL s) (rnsL s (baseL s)) = [] ∨ s.weeks.toNat ≤ week.toNat) := by
    rintro (h | h)
    · exact ht (by simpa [lvsL] using h)
    · omega
  unfold outA outL
  rw [a, b, givesLo, givesHi, if_pos h, if_pos h, toldA, toldL_ok h, oLo, oHi, if_neg hA, if_neg hA]
  exact ⟨rfl, rfl⟩
end Go.S

/- The walks of functions. -/
namespace Go.Proofs.YtknflipongbngaaDoor
open Go.X Go.S Go.RowKit
theorem scan_any (s : Sp) (bo ro : Option Addr) (bc rc : Nat) (hb : s.book.length ≤ 1000000) (hr : s.reads.length ≤ 1000000) (w : World) (hg : Gl w) (hs : SpAt w s bo ro) :
    CallsR Tryd.prog 18 [.agg ⟨[.int .i64 s.weeks, .int .i64 s.most, .int .i64 s.fall, .int .i64 s.a0, .int .i64 s.a1, .int .i64 s.w0, .int .i64 s.w1, (.slice bo s.book.length bc), (.slice ro s.reads.length rc)]⟩] w (fun v _ => v = .tuple ⟨[.bool (decide (SpP s ∧ TrueP s)), .int .i64 (if SpP s then 0 else 10)]⟩) := by
  refine CallsR.of_SX (n := 19) (rs := [.tmp 2, .tmp 3]) Tryd.func18 rfl rfl rfl rfl ?_
  show SX _ _ _ ⟨[(0, .agg ⟨[.int .i64 s.weeks, .int .i64 s.most, .int .i64 s.fall, .int .i64 s.a0, .int .i64 s.a1, .int .i64 s.w0, .int .i64 s.w1, (.slice bo s.book.length bc), (.slice ro s.reads.length rc)]⟩)], [], []⟩
  refine SX.seq ?_
  refine SX.region ?_
  refine SXL.box rfl rfl ?_; intro b0
  refine SXL.assign rfl ?_
  refine SXL.assign rfl ?_
  refine SXL.nil ?_
  refine thenQ.normal ?_
  refine SX.seq ?_
  refine SX.seq ?_
  refine SX.region ?_
  refine SXL.loadNo 0 sh_27 rfl rfl rfl ?_
  refine SXL.call1 (.int .i64 (if SpP s then 0 else 10)) fn_26 rfl (fun w hI => scheck_any s bo ro _ _ hb hr _ (hg.inv hI) (hs.inv hI)) ?_
  refine SXL.assign rfl ?_
  refine SXL.nil ?_
  refine thenQ.normal ?_
  refine SX.seq ?_
  refine SX.region ?_
  refine SXL.move rfl ?_
  refine SXL.neqI rfl rfl ?_
  refine SXL.nil ?_
  refine thenQ.normal ?_
  refine SX.condP rfl (fun c10 => ?_) (fun c10 => ?_)
  · refine SX.seq ?_
    refine SX.region ?_
    refine SXL.move rfl ?_
    refine SXL.assign rfl ?_
    refine SXL.assign rfl ?_
    refine SXL.nil ?_
    refine thenQ.normal ?_
    refine SX.ret ?_
    refine thenQ.ret ?_
    refine retQ.two (ResAt.tmp rfl) (ResAt.tmp rfl) ?_
    have hv : ¬SpP s := fun h => c10 (by rw [if_pos h])
    rw [decide_eq_false (p := SpP s ∧ TrueP s) (fun h => hv h.1)]
  · refine SX.skip ?_
    refine thenQ.normal ?_
    refine SX.seq ?_
    have hv : SpP s := Decidable.byContradiction fun h => c10 (by rw [if_neg h]; omega)
    refine SX.region ?_
    refine SXL.loadNo 0 sh_27 rfl rfl rfl ?_
    refine SXL.call1 (.agg ⟨watC s bo ro bc rc (flL s)⟩) fn_72 rfl (fun w hI => flowing_any s bo ro bc rc hv _ (hg.inv hI) (hs.inv hI)) ?_
    refine SXL.call1 (.tuple ⟨[.agg ⟨ints (outL s.weeks.toNat (lvsL s (baseL s) (rnsL s (baseL s))))⟩, .bool (decide (rnsL s (baseL s) ≠ []))]⟩) fn_73 rfl (fun w hI => spans_any s bo ro bc rc (flL s) (baseL s) hv (relW hv) _ (hg.inv hI) (hs.inv hI)) ?_
    refine SXL.move rfl ?_
    refine SXL.extract rfl rfl ?_
    refine SXL.extract rfl rfl ?_
    refine SXL.alloc zp_114 ?_; intro b1
    refine SXL.store 1 sz_114 rfl rfl rfl rfl (by simp [outL]) (putAt_all _ _ (by simp [outL])) ?_ (ints_isOne _)
    refine SXL.assign rfl ?_
    refine SXL.nil ?_
    refine thenQ.normal ?_
    refine SX.seq ?_
    refine SX.region ?_
    refine SXL.move rfl ?_
    refine SXL.assign rfl ?_
    refine SXL.assign rfl ?_
    refine SXL.nil ?_
    refine thenQ.normal ?_
    refine SX.ret ?_
    refine retQ.two (ResAt.tmp rfl) (ResAt.tmp rfl) ?_
    rw [if_pos hv, decide_eq_decide.2 (show TrueP s ↔ SpP s ∧ TrueP s from ⟨fun h => ⟨hv, h⟩, fun h => h.2⟩)]
theorem asked_any (s : Sp) (bo ro : Option Addr) (bc rc : Nat) (p : Prop) [Decidable p] (e : Int) (hb : s.book.length ≤ 1000000) (hr : s.reads.length ≤ 1000000) (w : World) (hg : Gl w) (hs : SpAt w s bo ro) :
    CallsR Tryd.prog 75 [.agg ⟨[.int .i64 s.weeks, .int .i64 s.most, .int .i64 s.fall, .int .i64 s.a0, .int .i64 s.a1, .int .i64 s.w0, .int .i64 s.w1, (.slice bo s.book.length bc), (.slice ro s.reads.length rc)]⟩, .bool (decide (p)), .int .i64 e] w (fun v _ => AskR s bo ro bc rc p e v) := by
  refine CallsR.of_SX (n := 38) (rs := [.cell 6 117, .cell 7 114, .tmp 8]) Tryd.func75 rfl rfl rfl rfl ?_
  show SX _ _ _ ⟨[(0, .agg ⟨[.int .i64 s.weeks, .int .i64 s.most, .int .i64 s.fall, .int .i64 s.a0, .int .i64 s.a1, .int .i64 s.w0, .int .i64 s.w1, (.slice bo s.book.length bc), (.slice ro s.reads.length rc)]⟩), (1, .bool (decide (p))), (2, .int .i64 e)], [], []⟩
  refine SX.seq ?_
  refine SX.region ?_
  refine SXL.box rfl rfl ?_; intro b0
  refine SXL.alloc zp_117 ?_; intro b1
  refine SXL.alloc zp_114 ?_; intro b2
  refine SXL.assign rfl ?_
  refine SXL.nil ?_
  refine thenQ.normal ?_
  refine SX.seq ?_
  refine SX.seq ?_
  refine SX.region ?_
  refine SXL.loadNo 0 sh_27 rfl rfl rfl ?_
  refine SXL.call1 (.int .i64 (if SpP s then 0 else 10)) fn_26 rfl (fun w hI => scheck_any s bo ro _ _ hb hr _ (hg.inv hI) (hs.inv hI)) ?_
  refine SXL.assign rfl ?_
  refine SXL.nil ?_
  refine thenQ.normal ?_
  refine SX.seq ?_
  refine SX.region ?_
  refine SXL.move rfl ?_
  refine SXL.neqI rfl rfl ?_
  refine SXL.nil ?_
  refine thenQ.normal ?_
  refine SX.condP rfl (fun c16 => ?_) (fun c16 => ?_)
  · refine SX.seq ?_
    refine SX.region ?_
    refine SXL.buildS pl_117 zp_117 rfl rfl ?_
    refine SXL.buildA ae_114 zp_114 rfl rfl ?_
    refine SXL.move rfl ?_
    refine SXL.store 1 sz_117 rfl rfl rfl rfl rfl rfl ?_
    refine SXL.store 2 sz_114 rfl rfl rfl rfl rfl rfl ?_
    refine SXL.assign rfl ?_
    refine SXL.nil ?_
    refine thenQ.normal ?_
    refine SX.ret ?_
    refine thenQ.ret ?_
    refine retQ.three (ResAt.cellNo 1 sh_117 rfl rfl rfl) (ResAt.cellNo 2 sh_114 rfl rfl rfl) (ResAt.tmp rfl) ?_
    have hv : ¬SpP s := fun h => c16 (by rw [if_pos h])
    exact ⟨_, List.replicate 20 0, rfl, rfl, rfl, by rw [askE, if_pos hv, if_neg hv]; rfl, fun h => absurd h hv⟩
  · refine SX.skip ?_
    refine thenQ.normal ?_
    refine SX.seq ?_
    refine SX.seq ?_
    have hv : SpP s := Decidable.byContradiction fun h => c16 (by rw [if_neg h]; omega)
    refine SX.region ?_
    refine SXL.move rfl ?_
    refine SXL.not rfl ?_
    refine SXL.nil ?_
    refine thenQ.normal ?_
    refine SX.condP rfl (fun c21 => ?_) (fun c21 => ?_)
    · refine SX.seq ?_
      refine SX.region ?_
      refine SXL.buildS pl_117 zp_117 rfl rfl ?_
      refine SXL.buildA ae_114 zp_114 rfl rfl ?_
      refine SXL.move rfl ?_
      refine SXL.store 1 sz_117 rfl rfl rfl rfl rfl rfl ?_
      refine SXL.store 2 sz_114 rfl rfl rfl rfl rfl rfl ?_
      refine SXL.assign rfl ?_
      refine SXL.nil ?_
      refine thenQ.normal ?_
      refine SX.ret ?_
      refine thenQ.ret ?_
      refine retQ.three (ResAt.cellNo 1 sh_117 rfl rfl rfl) (ResAt.cellNo 2 sh_114 rfl rfl rfl) (ResAt.tmp rfl) ?_
      exact ⟨_, List.replicate 20 0, rfl, rfl, rfl, by rw [askE, if_neg (by simpa using hv), if_pos c21]; rfl, fun _ h => absurd h c21⟩
    · refine SX.skip ?_
      refine thenQ.normal ?_
      refine SX.seq ?_
      refine SX.region ?_
      refine SXL.loadNo 0 sh_27 rfl rfl rfl ?_
      refine SXL.call1 (.agg ⟨watC s bo ro bc rc (flL s)⟩) fn_72 rfl (fun w hI => flowing_any s bo ro bc rc hv _ (hg.inv hI) (hs.inv hI)) ?_
      refine SXL.alloc zp_117 ?_; intro b3
      refine SXL.store 3 sz_117 rfl rfl rfl rfl (watC_len (by simp [flL])) (putAt_all _ _ (watC_len (by simp [flL]))) ?_ (watC_one _ _ _ _ _ _)
      refine SXL.nil ?_
      refine thenQ.normal ?_
      refine SX.seq ?_
      refine SX.region ?_
      refine SXL.loadNo 3 sh_117 rfl rfl (takeAt_full (watC_len (by simp [flL]))) ?_
      refine SXL.call1 (.tuple ⟨[.agg ⟨ints (outL s.weeks.toNat (lvsL s (baseL s) (rnsL s (baseL s))))⟩, .bool (decide (rnsL s (baseL s) ≠ []))]⟩) fn_73 rfl (fun w hI => spans_any s bo ro bc rc (flL s) (baseL s) hv (relW hv) _ (hg.inv hI) (hs.inv hI)) ?_
      refine SXL.move rfl ?_
      refine SXL.extract rfl rfl ?_
      refine SXL.extract rfl rfl ?_
      refine SXL.alloc zp_114 ?_; intro b4
      refine SXL.store 4 sz_114 rfl rfl rfl rfl (by simp [outL]) (putAt_all _ _ (by simp [outL])) ?_ (ints_isOne _)
      refine SXL.assign rfl ?_
      refine SXL.nil ?_
      refine thenQ.normal ?_
      refine SX.seq ?_
      refine SX.seq ?_
      refine SX.region ?_
      refine SXL.move rfl ?_
      refine SXL.not rfl ?_
      refine SXL.nil ?_
      refine thenQ.normal ?_
      refine SX.condP rfl (fun c33 => ?_) (fun c33 => ?_)
      · refine SX.seq ?_
        refine SX.region ?_
        refine SXL.buildS pl_117 zp_117 rfl rfl ?_
        refine SXL.buildA ae_114 zp_114 rfl rfl ?_
        refine SXL.store 1 sz_117 rfl rfl rfl rfl rfl rfl ?_
        refine SXL.store 2 sz_114 rfl rfl rfl rfl rfl rfl ?_
        refine SXL.assign rfl ?_
        refine SXL.nil ?_
        refine thenQ.normal ?_
        refine SX.ret ?_
        refine thenQ.ret ?_
        refine retQ.three (ResAt.cellNo 1 sh_117 rfl rfl rfl) (ResAt.cellNo 2 sh_114 rfl rfl rfl) (ResAt.tmp rfl) ?_
        exact ⟨_, List.replicate 20 0, rfl, rfl, rfl, by rw [askE, if_neg (by simpa using hv), if_neg c21, if_neg c33]; rfl, fun _ _ h => absurd h c33⟩
      · refine SX.skip ?_
        refine thenQ.normal ?_
        refine SX.seq ?_
        refine SX.draw 5 (by kernel_rfl) (by kernel_rfl) ⟨[1, 3, 4], [true, false, false]⟩ ?_
        refine SXA.take 0 1 rfl (by kernel_rfl) rfl ?_
        refine SXL.loadNo 3 sh_117 rfl rfl (takeAt_full (watC_len (by simp [flL]))) ?_
        refine SXL.nil ⟨rfl, rfl, rfl, ?_⟩
        refine SXA.takeM 1 1 rfl (by kernel_rfl) rfl ?_
        refine SXL.loadNo 2 sh_114 rfl rfl (takeAt_full (by simp [outL])) ?_
        refine SXL.nil ⟨rfl, rfl, rfl, ?_⟩
        refine SXA.all [2] (by kernel_rfl) rfl ⟨⟨?_, rfl⟩, trivial⟩
        refine (show SXL _ _ [_] _ _ from ?_)
        refine SXL.store 1 sz_117 rfl rfl rfl rfl (watC_len (by simp [flL])) (putAt_all _ _ (watC_len (by simp [flL]))) ?_ (watC_one _ _ _ _ _ _)
        refine SXL.nil (stepQ.mkL _ (by kernel_rfl) rfl rfl ?_)
        refine SXA.all [3] (by kernel_rfl) rfl ⟨⟨?_, rfl⟩, trivial⟩
        refine (show SXL _ _ [_] _ _ from ?_)
        refine SXL.store 2 sz_114 rfl rfl rfl rfl (by simp [outL]) (putAt_all _ _ (by simp [outL])) ?_ (ints_isOne _)
        refine SXL.nil (stepQ.mkL _ (by kernel_rfl) rfl rfl ?_)
        refine SXA.takeM 4 1 rfl (by kernel_rfl) rfl ?_
        refine SXL.assign rfl ?_
        refine SXL.nil ⟨rfl, rfl, rfl, ?_⟩
        refine SXA.done (by kernel_rfl) ?_
        refine SXL.nil ?_
        refine thenQ.normal ?_
        refine SX.ret ?_
        refine retQ.three (ResAt.cellNo 1 sh_117 rfl rfl (takeAt_full (watC_len (by simp [flL])))) (ResAt.cellNo 2 sh_114 rfl rfl (takeAt_full (k := 20) (by simp [outL]))) (ResAt.tmp rfl) ?_
        exact ⟨_, outA s, watC_len (by simp [flL]), watC_one _ _ _ _ _ _, by simp [outA, outL], by rw [askE, if_neg (by simpa using hv), if_neg c21, if_pos (Decidable.not_not.1 c33)]; rfl, fun _ _ _ => ⟨rfl, rfl⟩⟩
end Go.Proofs.YtknflipongbngaaDoor

/- The walks of functions. -/
namespace Go.Proofs.YtknflipongbngaaDoor
open Go.X Go.S Go.RowKit
set_option maxHeartbeats 4000000 in
theorem sgives_any (s : Sp) (bo ro : Option Addr) (bc rc : Nat) (week : Int) (hb : s.book.length ≤ 1000000) (hr : s.reads.length ≤ 1000000) (w : World) (hg : Gl w) (hs : SpAt w s bo ro) :
    CallsR Tryd.prog 22 [.agg ⟨[.int .i64 s.weeks, .int .i64 s.most, .int .i64 s.fall, .int .i64 s.a0, .int .i64 s.a1, .int .i64 s.w0, .int .i64 s.w1, (.slice bo s.book.length bc), (.slice ro s.reads.length rc)]⟩, .int .i64 week] w (fun v _ => v = .tuple ⟨[.agg ⟨[.int .i64 ((givesLo s week)), .int .i64 ((givesHi s week))]⟩, .int .i64 (toldE s week)]⟩) := by
  have hp : SpP s → (Wi week 0 (IntKind.i64.wrap (s.weeks - 1)) ↔ Wi week 0 (s.weeks - 1)) := fun hv => by
    have hH := hv.1; unfold HeadP at hH; rw [wrap_in (by omega)]
  have hA : askE s (Wi week 0 (IntKind.i64.wrap (s.weeks - 1))) 11 = toldE s week := askE_told hp
  refine CallsR.of_SX (n := 28) (rs := [.cell 4 23, .tmp 5]) Tryd.func22 rfl rfl rfl rfl ?_
  show SX _ _ _ ⟨[(0, .agg ⟨[.int .i64 s.weeks, .int .i64 s.most, .int .i64 s.fall, .int .i64 s.a0, .int .i64 s.a1, .int .i64 s.w0, .int .i64 s.w1, (.slice bo s.book.length bc), (.slice ro s.reads.length rc)]⟩), (1, .int .i64 week)], [], []⟩
  refine SX.seq ?_
  refine SX.region ?_
  refine SXL.box rfl rfl ?_; intro b0
  refine SXL.alloc zp_23 ?_; intro b1
  refine SXL.assign rfl ?_
  refine SXL.nil ?_
  refine thenQ.normal ?_
  refine SX.seq ?_
  refine SX.draw 17 (by kernel_rfl) (by kernel_rfl) ⟨[10, 11, 15, 16], [true, true, false, false, false]⟩ ?_
  refine SXA.take 0 5 rfl (by kernel_rfl) rfl ?_
  refine SXL.loadNo 0 sh_27 rfl rfl rfl ?_
  refine SXL.fieldAddr fp_27_0 rfl ?_
  refine SXL.load1o 0 sh_3 rfl rfl rfl ?_
  refine SXL.subW rfl rfl ?_
  refine SXL.move rfl ?_
  refine SXL.nil ⟨rfl, rfl, rfl, ?_⟩
  refine SXA.all [5, 12, 13] (by kernel_rfl) rfl ⟨⟨?_, rfl⟩, ⟨?_, rfl⟩, ⟨?_, rfl⟩, trivial⟩
  · refine (show SXL _ _ [_] _ _ from ?_)
    refine SXL.buildSlice et_35 zp_3 rfl rfl rfl rfl ?_; intro b2
    refine SXL.nil (stepQ.mk _ rfl rfl ?_)
    refine SXA.take 6 1 rfl (by kernel_rfl) rfl ?_
    refine SXL.call1 (.bool (decide (Wi week 0 (IntKind.i64.wrap (s.weeks - 1))))) fn_78 rfl (fun w hI => in1_own hI 2 week 0 (IntKind.i64.wrap (s.weeks - 1)) rfl) ?_
    refine SXL.nil ⟨rfl, rfl, rfl, ?_⟩
    refine SXA.all [7, 12, 13] (by kernel_rfl) rfl ⟨⟨?_, rfl⟩, ⟨?_, rfl⟩, ⟨?_, rfl⟩, trivial⟩
    · refine (show SXL _ _ [_] _ _ from ?_)
      refine SXL.callP (AskR s bo ro bc rc (Wi week 0 (IntKind.i64.wrap (s.weeks - 1))) 11) fn_75 rfl (fun w hI => asked_any s bo ro bc rc (Wi week 0 (IntKind.i64.wrap (s.weeks - 1))) 11 hb hr w (hg.inv hI) (hs.inv hI)) ?_; rintro _ ⟨W, O, hW1, hW2, hO, rfl, hok⟩
      refine SXL.nil (stepQ.mk _ rfl rfl ?_)
      refine SXA.take 8 2 rfl (by kernel_rfl) rfl ?_
      refine SXL.move rfl ?_
      refine SXL.extract rfl rfl ?_
      refine SXL.nil ⟨rfl, rfl, rfl, ?_⟩
      refine SXA.takeM 10 2 rfl (by kernel_rfl) rfl ?_
      refine SXL.extract rfl rfl ?_
      refine SXL.extract rfl rfl ?_
      refine SXL.nil ⟨rfl, rfl, rfl, ?_⟩
      refine SXA.all [12, 13] (by kernel_rfl) rfl ⟨⟨?_, rfl⟩, ⟨?_, rfl⟩, trivial⟩
      · refine (show SXL _ _ [_] _ _ from ?_)
        refine SXL.alloc zp_117 ?_; intro b3
        refine SXL.nil (stepQ.mk _ rfl rfl ?_)
        refine SXA.all [13] (by kernel_rfl) rfl ⟨⟨?_, rfl⟩, trivial⟩
        refine (show SXL _ _ [_] _ _ from ?_)
        refine SXL.alloc zp_114 ?_; intro b4
        refine SXL.nil (stepQ.mk _ rfl rfl ?_)
        refine SXA.all [14] (by kernel_rfl) rfl ⟨⟨?_, rfl⟩, trivial⟩
        refine (show SXL _ _ [_] _ _ from ?_)
        refine SXL.store 3 sz_117 rfl rfl rfl rfl hW1 (putAt_all _ _ (by simp [hW1])) ?_ hW2
        refine SXL.nil (stepQ.mkL _ (by kernel_rfl) rfl rfl ?_)
        refine SXA.all [15] (by kernel_rfl) rfl ⟨⟨?_, rfl⟩, trivial⟩
        refine (show SXL _ _ [_] _ _ from ?_)
        refine SXL.store 4 sz_114 rfl rfl rfl rfl (by simp [hO]) (putAt_all _ _ (by simp [hO])) ?_ (ints_isOne _)
        refine SXL.nil (stepQ.mkL _ (by kernel_rfl) rfl rfl ?_)
        refine SXA.takeM 16 1 rfl (by kernel_rfl) rfl ?_
        refine SXL.assign rfl ?_
        refine SXL.nil ⟨rfl, rfl, rfl, ?_⟩
        refine SXA.done (by kernel_rfl) ?_
        refine SXL.nil ?_
        refine thenQ.normal ?_
        refine SX.seq ?_
        refine SX.seq ?_
        refine SX.region ?_
        refine SXL.move rfl ?_
        refine SXL.neqI rfl rfl ?_
        refine SXL.nil ?_
        refine thenQ.normal ?_
        refine SX.condP rfl (fun c22 => ?_) (fun c22 => ?_)
        · refine SX.seq ?_
          refine SX.region ?_
          refine SXL.buildS pl_23 zp_23 rfl rfl ?_
          refine SXL.move rfl ?_
          refine SXL.store 1 sz_23 rfl rfl rfl rfl rfl rfl ?_
          refine SXL.assign rfl ?_
          refine SXL.nil ?_
          refine thenQ.normal ?_
          refine SX.ret ?_
          refine thenQ.ret ?_
          refine retQ.two (ResAt.cellNo 1 sh_23 rfl rfl rfl) (ResAt.tmp rfl) ?_
          rw [givesLo, givesHi, ← hA, if_neg c22, if_neg c22]
        · refine SX.skip ?_
          refine thenQ.normal ?_
          refine SX.seq ?_
          have hc22 := Decidable.not_not.1 c22
          obtain ⟨hv, hwk, ht⟩ := toldE_valid (hA ▸ hc22)
          obtain ⟨rfl, rfl⟩ := hok hv ((hp hv).2 hwk) ht
          obtain ⟨g1, g2⟩ := outA_at (hA ▸ hc22)
          have hH := hv.1
          unfold HeadP at hH
          refine SX.region ?_
          refine SXL.move rfl ?_
          refine SXL.indexA el_114 rfl rfl (by omega) ?_
          refine SXL.loadNo 4 sh_23 rfl rfl (ints_take2' (M := outA s) (i := week.toNat) (by omega) (by rw [hO]; omega)) ?_
          refine SXL.store 1 sz_23 rfl rfl rfl rfl rfl rfl ?_
          refine SXL.assign rfl ?_
          refine SXL.nil ?_
          refine thenQ.normal ?_
          refine SX.ret ?_
          refine retQ.two (ResAt.cellNo 1 sh_23 rfl rfl rfl) (ResAt.tmp rfl) ?_
          rw [← hA, hc22, g1, g2]
      · refine (show SXL _ _ [_] _ _ from ?_)
        refine SXL.alloc zp_114 ?_; intro b3
        refine SXL.nil (stepQ.mk _ rfl rfl ?_)
        refine SXA.all [12] (by kernel_rfl) rfl ⟨⟨?_, rfl⟩, trivial⟩
        refine (show SXL _ _ [_] _ _ from ?_)
        refine SXL.alloc zp_117 ?_; intro b4
        refine SXL.nil (stepQ.mk _ rfl rfl ?_)
        refine SXA.all [14] (by kernel_rfl) rfl ⟨⟨?_, rfl⟩, trivial⟩
        refine (show SXL _ _ [_] _ _ from ?_)
        refine SXL.store 4 sz_117 rfl rfl rfl rfl hW1 (putAt_all _ _ (by simp [hW1])) ?_ hW2
        refine SXL.nil (stepQ.mkL _ (by kernel_rfl) rfl rfl ?_)
        refine SXA.all [15] (by kernel_rfl) rfl ⟨⟨?_, rfl⟩, trivial⟩
        refine (show SXL _ _ [_] _ _ from ?_)
        refine SXL.store 3 sz_114 rfl rfl rfl rfl (by simp [hO]) (putAt_all _ _ (by simp [hO])) ?_ (ints_isOne _)
        refine SXL.nil (stepQ.mkL _ (by kernel_rfl) rfl rfl ?_)
        refine SXA.takeM 16 1 rfl (by kernel_rfl) rfl ?_
        refine SXL.assign rfl ?_
        refine SXL.nil ⟨rfl, rfl, rfl, ?_⟩
        refine SXA.done (by kernel_rfl) ?_
        refine SXL.nil ?_
        refine thenQ.normal ?_
        refine SX.seq ?_
        refine SX.seq ?_
        refine SX.region ?_
        refine SXL.move rfl ?_
        refine SXL.neqI rfl rfl ?_
        refine SXL.nil ?_
        refine thenQ.normal ?_
        refine SX.condP rfl (fun c22 => ?_) (fun c22 => ?_)
        · refine SX.seq ?_
          refine SX.region ?_
          refine SXL.buildS pl_23 zp_23 rfl rfl ?_
          refine SXL.move rfl ?_
          refine SXL.store 1 sz_23 rfl rfl rfl rfl rfl rfl ?_
          refine SXL.assign rfl ?_
          refine SXL.nil ?_
          refine thenQ.normal ?_
          refine SX.ret ?_
          refine thenQ.ret ?_
          refine retQ.two (ResAt.cellNo 1 sh_23 rfl rfl rfl) (ResAt.tmp rfl) ?_
          rw [givesLo, givesHi, ← hA, if_neg c22, if_neg c22]
        · refine SX.skip ?_
          refine thenQ.normal ?_
          refine SX.seq ?_
          have hc22 := Decidable.not_not.1 c22
          obtain ⟨hv, hwk, ht⟩ := toldE_valid (hA ▸ hc22)
          obtain ⟨rfl, rfl⟩ := hok hv ((hp hv).2 hwk) ht
          obtain ⟨g1, g2⟩ := outA_at (hA ▸ hc22)
          have hH := hv.1
          unfold HeadP at hH
          refine SX.region ?_
          refine SXL.move rfl ?_
          refine SXL.indexA el_114 rfl rfl (by omega) ?_
          refine SXL.loadNo 3 sh_23 rfl rfl (ints_take2' (M := outA s) (i := week.toNat) (by omega) (by rw [hO]; omega)) ?_
          refine SXL.store 1 sz_23 rfl rfl rfl rfl rfl rfl ?_
          refine SXL.assign rfl ?_
          refine SXL.nil ?_
          refine thenQ.normal ?_
          refine SX.ret ?_
          refine retQ.two (ResAt.cellNo 1 sh_23 rfl rfl rfl) (ResAt.tmp rfl) ?_
          rw [← hA, hc22, g1, g2]
    · refine (show SXL _ _ [_] _ _ from ?_)
      refine SXL.alloc zp_117 ?_; intro b3
      refine SXL.nil (stepQ.mk _ rfl rfl ?_)
      refine SXA.all [7, 13] (by kernel_rfl) rfl ⟨⟨?_, rfl⟩, ⟨?_, rfl⟩, trivial⟩
      · refine (show SXL _ _ [_] _ _ from ?_)
        refine SXL.callP (AskR s bo ro bc rc (Wi week 0 (IntKind.i64.wrap (s.weeks - 1))) 11) fn_75 rfl (fun w hI => asked_any s bo ro bc rc (Wi week 0 (IntKind.i64.wrap (s.weeks - 1))) 11 hb hr w (hg.inv hI) (hs.inv hI)) ?_; rintro _ ⟨W, O, hW1, hW2, hO, rfl, hok⟩
        refine SXL.nil (stepQ.mk _ rfl rfl ?_)
        refine SXA.take 8 2 rfl (by kernel_rfl) rfl ?_
        refine SXL.move rfl ?_
        refine SXL.extract rfl rfl ?_
        refine SXL.nil ⟨rfl, rfl, rfl, ?_⟩
        refine SXA.takeM 10 2 rfl (by kernel_rfl) rfl ?_
        refine SXL.extract rfl rfl ?_
        refine SXL.extract rfl rfl ?_
        refine SXL.nil ⟨rfl, rfl, rfl, ?_⟩
        refine SXA.all [13] (by kernel_rfl) rfl ⟨⟨?_, rfl⟩, trivial⟩
        refine (show SXL _ _ [_] _ _ from ?_)
        refine SXL.alloc zp_114 ?_; intro b4
        refine SXL.nil (stepQ.mk _ rfl rfl ?_)
        refine SXA.all [14] (by kernel_rfl) rfl ⟨⟨?_, rfl⟩, trivial⟩
        refine (show SXL _ _ [_] _ _ from ?_)
        refine SXL.store 3 sz_117 rfl rfl rfl rfl hW1 (putAt_all _ _ (by simp [hW1])) ?_ hW2
        refine SXL.nil (stepQ.mkL _ (by kernel_rfl) rfl rfl ?_)
        refine SXA.all [15] (by kernel_rfl) rfl ⟨⟨?_, rfl⟩, trivial⟩
        refine (show SXL _ _ [_] _ _ from ?_)
        refine SXL.store 4 sz_114 rfl rfl rfl rfl (by simp [hO]) (putAt_all _ _ (by simp [hO])) ?_ (ints_isOne _)
        refine SXL.nil (stepQ.mkL _ (by kernel_rfl) rfl rfl ?_)
        refine SXA.takeM 16 1 rfl (by kernel_rfl) rfl ?_
        refine SXL.assign rfl ?_
        refine SXL.nil ⟨rfl, rfl, rfl, ?_⟩
        refine SXA.done (by kernel_rfl) ?_
        refine SXL.nil ?_
        refine thenQ.normal ?_
        refine SX.seq ?_
        refine SX.seq ?_
        refine SX.region ?_
        refine SXL.move rfl ?_
        refine SXL.neqI rfl rfl ?_
        refine SXL.nil ?_
        refine thenQ.normal ?_
        refine SX.condP rfl (fun c22 => ?_) (fun c22 => ?_)
        · refine SX.seq ?_
          refine SX.region ?_
          refine SXL.buildS pl_23 zp_23 rfl rfl ?_
          refine SXL.move rfl ?_
          refine SXL.store 1 sz_23 rfl rfl rfl rfl rfl rfl ?_
          refine SXL.assign rfl ?_
          refine SXL.nil ?_
          refine thenQ.normal ?_
          refine SX.ret ?_
          refine thenQ.ret ?_
          refine retQ.two (ResAt.cellNo 1 sh_23 rfl rfl rfl) (ResAt.tmp rfl) ?_
          rw [givesLo, givesHi, ← hA, if_neg c22, if_neg c22]
        · refine SX.skip ?_
          refine thenQ.normal ?_
          refine SX.seq ?_
          have hc22 := Decidable.not_not.1 c22
          obtain ⟨hv, hwk, ht⟩ := toldE_valid (hA ▸ hc22)
          obtain ⟨rfl, rfl⟩ := hok hv ((hp hv).2 hwk) ht
          obtain ⟨g1, g2⟩ := outA_at (hA ▸ hc22)
          have hH := hv.1
          unfold HeadP at hH
          refine SX.region ?_
          refine SXL.move rfl ?_
          refine SXL.indexA el_114 rfl rfl (by omega) ?_
          refine SXL.loadNo 4 sh_23 rfl rfl (ints_take2' (M := outA s) (i := week.toNat) (by omega) (by rw [hO]; omega)) ?_
          refine SXL.store 1 sz_23 rfl rfl rfl rfl rfl rfl ?_
          refine SXL.assign rfl ?_
          refine SXL.nil ?_
          refine thenQ.normal ?_
          refine SX.ret ?_
          refine retQ.two (ResAt.cellNo 1 sh_23 rfl rfl rfl) (ResAt.tmp rfl) ?_
          rw [← hA, hc22, g1, g2]
      · refine (show SXL _ _ [_] _ _ from ?_)
        refine SXL.alloc zp_114 ?_; intro b4
        refine SXL.nil (stepQ.mk _ rfl rfl ?_)
        refine SXA.all [7] (by kernel_rfl) rfl ⟨⟨?_, rfl⟩, trivial⟩
        refine (show SXL _ _ [_] _ _ from ?_)
        refine SXL.callP (AskR s bo ro bc rc (Wi week 0 (IntKind.i64.wrap (s.weeks - 1))) 11) fn_75 rfl (fun w hI => asked_any s bo ro bc rc (Wi week 0 (IntKind.i64.wrap (s.weeks - 1))) 11 hb hr w (hg.inv hI) (hs.inv hI)) ?_; rintro _ ⟨W, O, hW1, hW2, hO, rfl, hok⟩
        refine SXL.nil (stepQ.mk _ rfl rfl ?_)
        refine SXA.take 8 2 rfl (by kernel_rfl) rfl ?_
        refine SXL.move rfl ?_
        refine SXL.extract rfl rfl ?_
        refine SXL.nil ⟨rfl, rfl, rfl, ?_⟩
        refine SXA.takeM 10 2 rfl (by kernel_rfl) rfl ?_
        refine SXL.extract rfl rfl ?_
        refine SXL.extract rfl rfl ?_
        refine SXL.nil ⟨rfl, rfl, rfl, ?_⟩
        refine SXA.all [14] (by kernel_rfl) rfl ⟨⟨?_, rfl⟩, trivial⟩
        refine (show SXL _ _ [_] _ _ from ?_)
        refine SXL.store 3 sz_117 rfl rfl rfl rfl hW1 (putAt_all _ _ (by simp [hW1])) ?_ hW2
        refine SXL.nil (stepQ.mkL _ (by kernel_rfl) rfl rfl ?_)
        refine SXA.all [15] (by kernel_rfl) rfl ⟨⟨?_, rfl⟩, trivial⟩
        refine (show SXL _ _ [_] _ _ from ?_)
        refine SXL.store 4 sz_114 rfl rfl rfl rfl (by simp [hO]) (putAt_all _ _ (by simp [hO])) ?_ (ints_isOne _)
        refine SXL.nil (stepQ.mkL _ (by kernel_rfl) rfl rfl ?_)
        refine SXA.takeM 16 1 rfl (by kernel_rfl) rfl ?_
        refine SXL.assign rfl ?_
        refine SXL.nil ⟨rfl, rfl, rfl, ?_⟩
        refine SXA.done (by kernel_rfl) ?_
        refine SXL.nil ?_
        refine thenQ.normal ?_
        refine SX.seq ?_
        refine SX.seq ?_
        refine SX.region ?_
        refine SXL.move rfl ?_
        refine SXL.neqI rfl rfl ?_
        refine SXL.nil ?_
        refine thenQ.normal ?_
        refine SX.condP rfl (fun c22 => ?_) (fun c22 => ?_)
        · refine SX.seq ?_
          refine SX.region ?_
          refine SXL.buildS pl_23 zp_23 rfl rfl ?_
          refine SXL.move rfl ?_
          refine SXL.store 1 sz_23 rfl rfl rfl rfl rfl rfl ?_
          refine SXL.assign rfl ?_
          refine SXL.nil ?_
          refine thenQ.normal ?_
          refine SX.ret ?_
          refine thenQ.ret ?_
          refine retQ.two (ResAt.cellNo 1 sh_23 rfl rfl rfl) (ResAt.tmp rfl) ?_
          rw [givesLo, givesHi, ← hA, if_neg c22, if_neg c22]
        · refine SX.skip ?_
          refine thenQ.normal ?_
          refine SX.seq ?_
          have hc22 := Decidable.not_not.1 c22
          obtain ⟨hv, hwk, ht⟩ := toldE_valid (hA ▸ hc22)
          obtain ⟨rfl, rfl⟩ := hok hv ((hp hv).2 hwk) ht
          obtain ⟨g1, g2⟩ := outA_at (hA ▸ hc22)
          have hH := hv.1
          unfold HeadP at hH
          refine SX.region ?_
          refine SXL.move rfl ?_
          refine SXL.indexA el_114 rfl rfl (by omega) ?_
          refine SXL.loadNo 4 sh_23 rfl rfl (ints_take2' (M := outA s) (i := week.toNat) (by omega) (by rw [hO]; omega)) ?_
          refine SXL.store 1 sz_23 rfl rfl rfl rfl rfl rfl ?_
          refine SXL.assign rfl ?_
          refine SXL.nil ?_
          refine thenQ.normal ?_
          refine SX.ret ?_
          refine retQ.two (ResAt.cellNo 1 sh_23 rfl rfl rfl) (ResAt.tmp rfl) ?_
          rw [← hA, hc22, g1, g2]
    · refine (show SXL _ _ [_] _ _ from ?_)
      refine SXL.alloc zp_114 ?_; intro b3
      refine SXL.nil (stepQ.mk _ rfl rfl ?_)
      refine SXA.all [7, 12] (by kernel_rfl) rfl ⟨⟨?_, rfl⟩, ⟨?_, rfl⟩, trivial⟩
      · refine (show SXL _ _ [_] _ _ from ?_)
        refine SXL.callP (AskR s bo ro bc rc (Wi week 0 (IntKind.i64.wrap (s.weeks - 1))) 11) fn_75 rfl (fun w hI => asked_any s bo ro bc rc (Wi week 0 (IntKind.i64.wrap (s.weeks - 1))) 11 hb hr w (hg.inv hI) (hs.inv hI)) ?_; rintro _ ⟨W, O, hW1, hW2, hO, rfl, hok⟩
        refine SXL.nil (stepQ.mk _ rfl rfl ?_)
        refine SXA.take 8 2 rfl (by kernel_rfl) rfl ?_
        refine SXL.move rfl ?_
        refine SXL.extract rfl rfl ?_
        refine SXL.nil ⟨rfl, rfl, rfl, ?_⟩
        refine SXA.takeM 10 2 rfl (by kernel_rfl) rfl ?_
        refine SXL.extract rfl rfl ?_
        refine SXL.extract rfl rfl ?_
        refine SXL.nil ⟨rfl, rfl, rfl, ?_⟩
        refine SXA.all [12] (by kernel_rfl) rfl ⟨⟨?_, rfl⟩, trivial⟩
        refine (show SXL _ _ [_] _ _ from ?_)
        refine SXL.alloc zp_117 ?_; intro b4
        refine SXL.nil (stepQ.mk _ rfl rfl ?_)
        refine SXA.all [14] (by kernel_rfl) rfl ⟨⟨?_, rfl⟩, trivial⟩
        refine (show SXL _ _ [_] _ _ from ?_)
        refine SXL.store 4 sz_117 rfl rfl rfl rfl hW1 (putAt_all _ _ (by simp [hW1])) ?_ hW2
        refine SXL.nil (stepQ.mkL _ (by kernel_rfl) rfl rfl ?_)
        refine SXA.all [15] (by kernel_rfl) rfl ⟨⟨?_, rfl⟩, trivial⟩
        refine (show SXL _ _ [_] _ _ from ?_)
        refine SXL.store 3 sz_114 rfl rfl rfl rfl (by simp [hO]) (putAt_all _ _ (by simp [hO])) ?_ (ints_isOne _)
        refine SXL.nil (stepQ.mkL _ (by kernel_rfl) rfl rfl ?_)
        refine SXA.takeM 16 1 rfl (by kernel_rfl) rfl ?_
        refine SXL.assign rfl ?_
        refine SXL.nil ⟨rfl, rfl, rfl, ?_⟩
        refine SXA.done (by kernel_rfl) ?_
        refine SXL.nil ?_
        refine thenQ.normal ?_
        refine SX.seq ?_
        refine SX.seq ?_
        refine SX.region ?_
        refine SXL.move rfl ?_
        refine SXL.neqI rfl rfl ?_
        refine SXL.nil ?_
        refine thenQ.normal ?_
        refine SX.condP rfl (fun c22 => ?_) (fun c22 => ?_)
        · refine SX.seq ?_
          refine SX.region ?_
          refine SXL.buildS pl_23 zp_23 rfl rfl ?_
          refine SXL.move rfl ?_
          refine SXL.store 1 sz_23 rfl rfl rfl rfl rfl rfl ?_
          refine SXL.assign rfl ?_
          refine SXL.nil ?_
          refine thenQ.normal ?_
          refine SX.ret ?_
          refine thenQ.ret ?_
          refine retQ.two (ResAt.cellNo 1 sh_23 rfl rfl rfl) (ResAt.tmp rfl) ?_
          rw [givesLo, givesHi, ← hA, if_neg c22, if_neg c22]
        · refine SX.skip ?_
          refine thenQ.normal ?_
          refine SX.seq ?_
          have hc22 := Decidable.not_not.1 c22
          obtain ⟨hv, hwk, ht⟩ := toldE_valid (hA ▸ hc22)
          obtain ⟨rfl, rfl⟩ := hok hv ((hp hv).2 hwk) ht
          obtain ⟨g1, g2⟩ := outA_at (hA ▸ hc22)
          have hH := hv.1
          unfold HeadP at hH
          refine SX.region ?_
          refine SXL.move rfl ?_
          refine SXL.indexA el_114 rfl rfl (by omega) ?_
          refine SXL.loadNo 3 sh_23 rfl rfl (ints_take2' (M := outA s) (i := week.toNat) (by omega) (by rw [hO]; omega)) ?_
          refine SXL.store 1 sz_23 rfl rfl rfl rfl rfl rfl ?_
          refine SXL.assign rfl ?_
          refine SXL.nil ?_
          refine thenQ.normal ?_
          refine SX.ret ?_
          refine retQ.two (ResAt.cellNo 1 sh_23 rfl rfl rfl) (ResAt.tmp rfl) ?_
          rw [← hA, hc22, g1, g2]
      · refine (show SXL _ _ [_] _ _ from ?_)
        refine SXL.alloc zp_117 ?_; intro b4
        refine SXL.nil (stepQ.mk _ rfl rfl ?_)
        refine SXA.all [7] (by kernel_rfl) rfl ⟨⟨?_, rfl⟩, trivial⟩
        refine (show SXL _ _ [_] _ _ from ?_)
        refine SXL.callP (AskR s bo ro bc rc (Wi week 0 (IntKind.i64.wrap (s.weeks - 1))) 11) fn_75 rfl (fun w hI => asked_any s bo ro bc rc (Wi week 0 (IntKind.i64.wrap (s.weeks - 1))) 11 hb hr w (hg.inv hI) (hs.inv hI)) ?_; rintro _ ⟨W, O, hW1, hW2, hO, rfl, hok⟩
        refine SXL.nil (stepQ.mk _ rfl rfl ?_)
        refine SXA.take 8 2 rfl (by kernel_rfl) rfl ?_
        refine SXL.move rfl ?_
        refine SXL.extract rfl rfl ?_
        refine SXL.nil ⟨rfl, rfl, rfl, ?_⟩
        refine SXA.takeM 10 2 rfl (by kernel_rfl) rfl ?_
        refine SXL.extract rfl rfl ?_
        refine SXL.extract rfl rfl ?_
        refine SXL.nil ⟨rfl, rfl, rfl, ?_⟩
        refine SXA.all [14] (by kernel_rfl) rfl ⟨⟨?_, rfl⟩, trivial⟩
        refine (show SXL _ _ [_] _ _ from ?_)
        refine SXL.store 4 sz_117 rfl rfl rfl rfl hW1 (putAt_all _ _ (by simp [hW1])) ?_ hW2
        refine SXL.nil (stepQ.mkL _ (by kernel_rfl) rfl rfl ?_)
        refine SXA.all [15] (by kernel_rfl) rfl ⟨⟨?_, rfl⟩, trivial⟩
        refine (show SXL _ _ [_] _ _ from ?_)
        refine SXL.store 3 sz_114 rfl rfl rfl rfl (by simp [hO]) (putAt_all _ _ (by simp [hO])) ?_ (ints_isOne _)
        refine SXL.nil (stepQ.mkL _ (by kernel_rfl) rfl rfl ?_)
        refine SXA.takeM 16 1 rfl (by kernel_rfl) rfl ?_
        refine SXL.assign rfl ?_
        refine SXL.nil ⟨rfl, rfl, rfl, ?_⟩
        refine SXA.done (by kernel_rfl) ?_
        refine SXL.nil ?_
        refine thenQ.normal ?_
        refine SX.seq ?_
        refine SX.seq ?_
        refine SX.region ?_
        refine SXL.move rfl ?_
        refine SXL.neqI rfl rfl ?_
        refine SXL.nil ?_
        refine thenQ.normal ?_
        refine SX.condP rfl (fun c22 => ?_) (fun c22 => ?_)
        · refine SX.seq ?_
          refine SX.region ?_
          refine SXL.buildS pl_23 zp_23 rfl rfl ?_
          refine SXL.move rfl ?_
          refine SXL.store 1 sz_23 rfl rfl rfl rfl rfl rfl ?_
          refine SXL.assign rfl ?_
          refine SXL.nil ?_
          refine thenQ.normal ?_
          refine SX.ret ?_
          refine thenQ.ret ?_
          refine retQ.two (ResAt.cellNo 1 sh_23 rfl rfl rfl) (ResAt.tmp rfl) ?_
          rw [givesLo, givesHi, ← hA, if_neg c22, if_neg c22]
        · refine SX.skip ?_
          refine thenQ.normal ?_
          refine SX.seq ?_
          have hc22 := Decidable.not_not.1 c22
          obtain ⟨hv, hwk, ht⟩ := toldE_valid (hA ▸ hc22)
          obtain ⟨rfl, rfl⟩ := hok hv ((hp hv).2 hwk) ht
          obtain ⟨g1, g2⟩ := outA_at (hA ▸ hc22)
          have hH := hv.1
          unfold HeadP at hH
          refine SX.region ?_
          refine SXL.move rfl ?_
          refine SXL.indexA el_114 rfl rfl (by omega) ?_
          refine SXL.loadNo 3 sh_23 rfl rfl (ints_take2' (M := outA s) (i := week.toNat) (by omega) (by rw [hO]; omega)) ?_
          refine SXL.store 1 sz_23 rfl rfl rfl rfl rfl rfl ?_
          refine SXL.assign rfl ?_
          refine SXL.nil ?_
          refine thenQ.normal ?_
          refine SX.ret ?_
          refine retQ.two (ResAt.cellNo 1 sh_23 rfl rfl rfl) (ResAt.tmp rfl) ?_
          rw [← hA, hc22, g1, g2]
  · refine (show SXL _ _ [_] _ _ from ?_)
    refine SXL.alloc zp_117 ?_; intro b2
    refine SXL.nil (stepQ.mk _ rfl rfl ?_)
    refine SXA.all [5, 13] (by kernel_rfl) rfl ⟨⟨?_, rfl⟩, ⟨?_, rfl⟩, trivial⟩
    · refine (show SXL _ _ [_] _ _ from ?_)
      refine SXL.buildSlice et_35 zp_3 rfl rfl rfl rfl ?_; intro b3
      refine SXL.nil (stepQ.mk _ rfl rfl ?_)
      refine SXA.take 6 1 rfl (by kernel_rfl) rfl ?_
      refine SXL.call1 (.bool (decide (Wi week 0 (IntKind.i64.wrap (s.weeks - 1))))) fn_78 rfl (fun w hI => in1_own hI 3 week 0 (IntKind.i64.wrap (s.weeks - 1)) rfl) ?_
      refine SXL.nil ⟨rfl, rfl, rfl, ?_⟩
      refine SXA.all [7, 13] (by kernel_rfl) rfl ⟨⟨?_, rfl⟩, ⟨?_, rfl⟩, trivial⟩
      · refine (show SXL _ _ [_] _ _ from ?_)
        refine SXL.callP (AskR s bo ro bc rc (Wi week 0 (IntKind.i64.wrap (s.weeks - 1))) 11) fn_75 rfl (fun w hI => asked_any s bo ro bc rc (Wi week 0 (IntKind.i64.wrap (s.weeks - 1))) 11 hb hr w (hg.inv hI) (hs.inv hI)) ?_; rintro _ ⟨W, O, hW1, hW2, hO, rfl, hok⟩
        refine SXL.nil (stepQ.mk _ rfl rfl ?_)
        refine SXA.take 8 2 rfl (by kernel_rfl) rfl ?_
        refine SXL.move rfl ?_
        refine SXL.extract rfl rfl ?_
        refine SXL.nil ⟨rfl, rfl, rfl, ?_⟩
        refine SXA.takeM 10 2 rfl (by kernel_rfl) rfl ?_
        refine SXL.extract rfl rfl ?_
        refine SXL.extract rfl rfl ?_
        refine SXL.nil ⟨rfl, rfl, rfl, ?_⟩
        refine SXA.all [13] (by kernel_rfl) rfl ⟨⟨?_, rfl⟩, trivial⟩
        refine (show SXL _ _ [_] _ _ from ?_)
        refine SXL.alloc zp_114 ?_; intro b4
        refine SXL.nil (stepQ.mk _ rfl rfl ?_)
        refine SXA.all [14] (by kernel_rfl) rfl ⟨⟨?_, rfl⟩, trivial⟩
        refine (show SXL _ _ [_] _ _ from ?_)
        refine SXL.store 2 sz_117 rfl rfl rfl rfl hW1 (putAt_all _ _ (by simp [hW1])) ?_ hW2
        refine SXL.nil (stepQ.mkL _ (by kernel_rfl) rfl rfl ?_)
        refine SXA.all [15] (by kernel_rfl) rfl ⟨⟨?_, rfl⟩, trivial⟩
        refine (show SXL _ _ [_] _ _ from ?_)
        refine SXL.store 4 sz_114 rfl rfl rfl rfl (by simp [hO]) (putAt_all _ _ (by simp [hO])) ?_ (ints_isOne _)
        refine SXL.nil (stepQ.mkL _ (by kernel_rfl) rfl rfl ?_)
        refine SXA.takeM 16 1 rfl (by kernel_rfl) rfl ?_
        refine SXL.assign rfl ?_
        refine SXL.nil ⟨rfl, rfl, rfl, ?_⟩
        refine SXA.done (by kernel_rfl) ?_
        refine SXL.nil ?_
        refine thenQ.normal ?_
        refine SX.seq ?_
        refine SX.seq ?_
        refine SX.region ?_
        refine SXL.move rfl ?_
        refine SXL.neqI rfl rfl ?_
        refine SXL.nil ?_
        refine thenQ.normal ?_
        refine SX.condP rfl (fun c22 => ?_) (fun c22 => ?_)
        · refine SX.seq ?_
          refine SX.region ?_
          refine SXL.buildS pl_23 zp_23 rfl rfl ?_
          refine SXL.move rfl ?_
          refine SXL.store 1 sz_23 rfl rfl rfl rfl rfl rfl ?_
          refine SXL.assign rfl ?_
          refine SXL.nil ?_
          refine thenQ.normal ?_
          refine SX.ret ?_
          refine thenQ.ret ?_
          refine retQ.two (ResAt.cellNo 1 sh_23 rfl rfl rfl) (ResAt.tmp rfl) ?_
          rw [givesLo, givesHi, ← hA, if_neg c22, if_neg c22]
        · refine SX.skip ?_
          refine thenQ.normal ?_
          refine SX.seq ?_
          have hc22 := Decidable.not_not.1 c22
          obtain ⟨hv, hwk, ht⟩ := toldE_valid (hA ▸ hc22)
          obtain ⟨rfl, rfl⟩ := hok hv ((hp hv).2 hwk) ht
          obtain ⟨g1, g2⟩ := outA_at (hA ▸ hc22)
          have hH := hv.1
          unfold HeadP at hH
          refine SX.region ?_
          refine SXL.move rfl ?_
          refine SXL.indexA el_114 rfl rfl (by omega) ?_
          refine SXL.loadNo 4 sh_23 rfl rfl (ints_take2' (M := outA s) (i := week.toNat) (by omega) (by rw [hO]; omega)) ?_
          refine SXL.store 1 sz_23 rfl rfl rfl rfl rfl rfl ?_
          refine SXL.assign rfl ?_
          refine SXL.nil ?_
          refine thenQ.normal ?_
          refine SX.ret ?_
          refine retQ.two (ResAt.cellNo 1 sh_23 rfl rfl rfl) (ResAt.tmp rfl) ?_
          rw [← hA, hc22, g1, g2]
      · refine (show SXL _ _ [_] _ _ from ?_)
        refine SXL.alloc zp_114 ?_; intro b4
        refine SXL.nil (stepQ.mk _ rfl rfl ?_)
        refine SXA.all [7] (by kernel_rfl) rfl ⟨⟨?_, rfl⟩, trivial⟩
        refine (show SXL _ _ [_] _ _ from ?_)
        refine SXL.callP (AskR s bo ro bc rc (Wi week 0 (IntKind.i64.wrap (s.weeks - 1))) 11) fn_75 rfl (fun w hI => asked_any s bo ro bc rc (Wi week 0 (IntKind.i64.wrap (s.weeks - 1))) 11 hb hr w (hg.inv hI) (hs.inv hI)) ?_; rintro _ ⟨W, O, hW1, hW2, hO, rfl, hok⟩
        refine SXL.nil (stepQ.mk _ rfl rfl ?_)
        refine SXA.take 8 2 rfl (by kernel_rfl) rfl ?_
        refine SXL.move rfl ?_
        refine SXL.extract rfl rfl ?_
        refine SXL.nil ⟨rfl, rfl, rfl, ?_⟩
        refine SXA.takeM 10 2 rfl (by kernel_rfl) rfl ?_
        refine SXL.extract rfl rfl ?_
        refine SXL.extract rfl rfl ?_
        refine SXL.nil ⟨rfl, rfl, rfl, ?_⟩
        refine SXA.all [14] (by kernel_rfl) rfl ⟨⟨?_, rfl⟩, trivial⟩
        refine (show SXL _ _ [_] _ _ from ?_)
        refine SXL.store 2 sz_117 rfl rfl rfl rfl hW1 (putAt_all _ _ (by simp [hW1])) ?_ hW2
        refine SXL.nil (stepQ.mkL _ (by kernel_rfl) rfl rfl ?_)
        refine SXA.all [15] (by kernel_rfl) rfl ⟨⟨?_, rfl⟩, trivial⟩
        refine (show SXL _ _ [_] _ _ from ?_)
        refine SXL.store 4 sz_114 rfl rfl rfl rfl (by simp [hO]) (putAt_all _ _ (by simp [hO])) ?_ (ints_isOne _)
        refine SXL.nil (stepQ.mkL _ (by kernel_rfl) rfl rfl ?_)
        refine SXA.takeM 16 1 rfl (by kernel_rfl) rfl ?_
        refine SXL.assign rfl ?_
        refine SXL.nil ⟨rfl, rfl, rfl, ?_⟩
        refine SXA.done (by kernel_rfl) ?_
        refine SXL.nil ?_
        refine thenQ.normal ?_
        refine SX.seq ?_
        refine SX.seq ?_
        refine SX.region ?_
        refine SXL.move rfl ?_
        refine SXL.neqI rfl rfl ?_
        refine SXL.nil ?_
        refine thenQ.normal ?_
        refine SX.condP rfl (fun c22 => ?_) (fun c22 => ?_)
        · refine SX.seq ?_
          refine SX.region ?_
          refine SXL.buildS pl_23 zp_23 rfl rfl ?_
          refine SXL.move rfl ?_
          refine SXL.store 1 sz_23 rfl rfl rfl rfl rfl rfl ?_
          refine SXL.assign rfl ?_
          refine SXL.nil ?_
          refine thenQ.normal ?_
          refine SX.ret ?_
          refine thenQ.ret ?_
          refine retQ.two (ResAt.cellNo 1 sh_23 rfl rfl rfl) (ResAt.tmp rfl) ?_
          rw [givesLo, givesHi, ← hA, if_neg c22, if_neg c22]
        · refine SX.skip ?_
          refine thenQ.normal ?_
          refine SX.seq ?_
          have hc22 := Decidable.not_not.1 c22
          obtain ⟨hv, hwk, ht⟩ := toldE_valid (hA ▸ hc22)
          obtain ⟨rfl, rfl⟩ := hok hv ((hp hv).2 hwk) ht
          obtain ⟨g1, g2⟩ := outA_at (hA ▸ hc22)
          have hH := hv.1
          unfold HeadP at hH
          refine SX.region ?_
          refine SXL.move rfl ?_
          refine SXL.indexA el_114 rfl rfl (by omega) ?_
          refine SXL.loadNo 4 sh_23 rfl rfl (ints_take2' (M := outA s) (i := week.toNat) (by omega) (by rw [hO]; omega)) ?_
          refine SXL.store 1 sz_23 rfl rfl rfl rfl rfl rfl ?_
          refine SXL.assign rfl ?_
          refine SXL.nil ?_
          refine thenQ.normal ?_
          refine SX.ret ?_
          refine retQ.two (ResAt.cellNo 1 sh_23 rfl rfl rfl) (ResAt.tmp rfl) ?_
          rw [← hA, hc22, g1, g2]
    · refine (show SXL _ _ [_] _ _ from ?_)
      refine SXL.alloc zp_114 ?_; intro b3
      refine SXL.nil (stepQ.mk _ rfl rfl ?_)
      refine SXA.all [5] (by kernel_rfl) rfl ⟨⟨?_, rfl⟩, trivial⟩
      refine (show SXL _ _ [_] _ _ from ?_)
      refine SXL.buildSlice et_35 zp_3 rfl rfl rfl rfl ?_; intro b4
      refine SXL.nil (stepQ.mk _ rfl rfl ?_)
      refine SXA.take 6 1 rfl (by kernel_rfl) rfl ?_
      refine SXL.call1 (.bool (decide (Wi week 0 (IntKind.i64.wrap (s.weeks - 1))))) fn_78 rfl (fun w hI => in1_own hI 4 week 0 (IntKind.i64.wrap (s.weeks - 1)) rfl) ?_
      refine SXL.nil ⟨rfl, rfl, rfl, ?_⟩
      refine SXA.all [7] (by kernel_rfl) rfl ⟨⟨?_, rfl⟩, trivial⟩
      refine (show SXL _ _ [_] _ _ from ?_)
      refine SXL.callP (AskR s bo ro bc rc (Wi week 0 (IntKind.i64.wrap (s.weeks - 1))) 11) fn_75 rfl (fun w hI => asked_any s bo ro bc rc (Wi week 0 (IntKind.i64.wrap (s.weeks - 1))) 11 hb hr w (hg.inv hI) (hs.inv hI)) ?_; rintro _ ⟨W, O, hW1, hW2, hO, rfl, hok⟩
      refine SXL.nil (stepQ.mk _ rfl rfl ?_)
      refine SXA.take 8 2 rfl (by kernel_rfl) rfl ?_
      refine SXL.move rfl ?_
      refine SXL.extract rfl rfl ?_
      refine SXL.nil ⟨rfl, rfl, rfl, ?_⟩
      refine SXA.takeM 10 2 rfl (by kernel_rfl) rfl ?_
      refine SXL.extract rfl rfl ?_
      refine SXL.extract rfl rfl ?_
      refine SXL.nil ⟨rfl, rfl, rfl, ?_⟩
      refine SXA.all [14] (by kernel_rfl) rfl ⟨⟨?_, rfl⟩, trivial⟩
      refine (show SXL _ _ [_] _ _ from ?_)
      refine SXL.store 2 sz_117 rfl rfl rfl rfl hW1 (putAt_all _ _ (by simp [hW1])) ?_ hW2
      refine SXL.nil (stepQ.mkL _ (by kernel_rfl) rfl rfl ?_)
      refine SXA.all [15] (by kernel_rfl) rfl ⟨⟨?_, rfl⟩, trivial⟩
      refine (show SXL _ _ [_] _ _ from ?_)
      refine SXL.store 3 sz_114 rfl rfl rfl rfl (by simp [hO]) (putAt_all _ _ (by simp [hO])) ?_ (ints_isOne _)
      refine SXL.nil (stepQ.mkL _ (by kernel_rfl) rfl rfl ?_)
      refine SXA.takeM 16 1 rfl (by kernel_rfl) rfl ?_
      refine SXL.assign rfl ?_
      refine SXL.nil ⟨rfl, rfl, rfl, ?_⟩
      refine SXA.done (by kernel_rfl) ?_
      refine SXL.nil ?_
      refine thenQ.normal ?_
      refine SX.seq ?_
      refine SX.seq ?_
      refine SX.region ?_
      refine SXL.move rfl ?_
      refine SXL.neqI rfl rfl ?_
      refine SXL.nil ?_
      refine thenQ.normal ?_
      refine SX.condP rfl (fun c22 => ?_) (fun c22 => ?_)
      · refine SX.seq ?_
        refine SX.region ?_
        refine SXL.buildS pl_23 zp_23 rfl rfl ?_
        refine SXL.move rfl ?_
        refine SXL.store 1 sz_23 rfl rfl rfl rfl rfl rfl ?_
        refine SXL.assign rfl ?_
        refine SXL.nil ?_
        refine thenQ.normal ?_
        refine SX.ret ?_
        refine thenQ.ret ?_
        refine retQ.two (ResAt.cellNo 1 sh_23 rfl rfl rfl) (ResAt.tmp rfl) ?_
        rw [givesLo, givesHi, ← hA, if_neg c22, if_neg c22]
      · refine SX.skip ?_
        refine thenQ.normal ?_
        refine SX.seq ?_
        have hc22 := Decidable.not_not.1 c22
        obtain ⟨hv, hwk, ht⟩ := toldE_valid (hA ▸ hc22)
        obtain ⟨rfl, rfl⟩ := hok hv ((hp hv).2 hwk) ht
        obtain ⟨g1, g2⟩ := outA_at (hA ▸ hc22)
        have hH := hv.1
        unfold HeadP at hH
        refine SX.region ?_
        refine SXL.move rfl ?_
        refine SXL.indexA el_114 rfl rfl (by omega) ?_
        refine SXL.loadNo 3 sh_23 rfl rfl (ints_take2' (M := outA s) (i := week.toNat) (by omega) (by rw [hO]; omega)) ?_
        refine SXL.store 1 sz_23 rfl rfl rfl rfl rfl rfl ?_
        refine SXL.assign rfl ?_
        refine SXL.nil ?_
        refine thenQ.normal ?_
        refine SX.ret ?_
        refine retQ.two (ResAt.cellNo 1 sh_23 rfl rfl rfl) (ResAt.tmp rfl) ?_
        rw [← hA, hc22, g1, g2]
  · refine (show SXL _ _ [_] _ _ from ?_)
    refine SXL.alloc zp_114 ?_; intro b2
    refine SXL.nil (stepQ.mk _ rfl rfl ?_)
    refine SXA.all [5, 12] (by kernel_rfl) rfl ⟨⟨?_, rfl⟩, ⟨?_, rfl⟩, trivial⟩
    · refine (show SXL _ _ [_] _ _ from ?_)
      refine SXL.buildSlice et_35 zp_3 rfl rfl rfl rfl ?_; intro b3
      refine SXL.nil (stepQ.mk _ rfl rfl ?_)
      refine SXA.take 6 1 rfl (by kernel_rfl) rfl ?_
      refine SXL.call1 (.bool (decide (Wi week 0 (IntKind.i64.wrap (s.weeks - 1))))) fn_78 rfl (fun w hI => in1_own hI 3 week 0 (IntKind.i64.wrap (s.weeks - 1)) rfl) ?_
      refine SXL.nil ⟨rfl, rfl, rfl, ?_⟩
      refine SXA.all [7, 12] (by kernel_rfl) rfl ⟨⟨?_, rfl⟩, ⟨?_, rfl⟩, trivial⟩
      · refine (show SXL _ _ [_] _ _ from ?_)
        refine SXL.callP (AskR s bo ro bc rc (Wi week 0 (IntKind.i64.wrap (s.weeks - 1))) 11) fn_75 rfl (fun w hI => asked_any s bo ro bc rc (Wi week 0 (IntKind.i64.wrap (s.weeks - 1))) 11 hb hr w (hg.inv hI) (hs.inv hI)) ?_; rintro _ ⟨W, O, hW1, hW2, hO, rfl, hok⟩
        refine SXL.nil (stepQ.mk _ rfl rfl ?_)
        refine SXA.take 8 2 rfl (by kernel_rfl) rfl ?_
        refine SXL.move rfl ?_
        refine SXL.extract rfl rfl ?_
        refine SXL.nil ⟨rfl, rfl, rfl, ?_⟩
        refine SXA.takeM 10 2 rfl (by kernel_rfl) rfl ?_
        refine SXL.extract rfl rfl ?_
        refine SXL.extract rfl rfl ?_
        refine SXL.nil ⟨rfl, rfl, rfl, ?_⟩
        refine SXA.all [12] (by kernel_rfl) rfl ⟨⟨?_, rfl⟩, trivial⟩
        refine (show SXL _ _ [_] _ _ from ?_)
        refine SXL.alloc zp_117 ?_; intro b4
        refine SXL.nil (stepQ.mk _ rfl rfl ?_)
        refine SXA.all [14] (by kernel_rfl) rfl ⟨⟨?_, rfl⟩, trivial⟩
        refine (show SXL _ _ [_] _ _ from ?_)
        refine SXL.store 4 sz_117 rfl rfl rfl rfl hW1 (putAt_all _ _ (by simp [hW1])) ?_ hW2
        refine SXL.nil (stepQ.mkL _ (by kernel_rfl) rfl rfl ?_)
        refine SXA.all [15] (by kernel_rfl) rfl ⟨⟨?_, rfl⟩, trivial⟩
        refine (show SXL _ _ [_] _ _ from ?_)
        refine SXL.store 2 sz_114 rfl rfl rfl rfl (by simp [hO]) (putAt_all _ _ (by simp [hO])) ?_ (ints_isOne _)
        refine SXL.nil (stepQ.mkL _ (by kernel_rfl) rfl rfl ?_)
        refine SXA.takeM 16 1 rfl (by kernel_rfl) rfl ?_
        refine SXL.assign rfl ?_
        refine SXL.nil ⟨rfl, rfl, rfl, ?_⟩
        refine SXA.done (by kernel_rfl) ?_
        refine SXL.nil ?_
        refine thenQ.normal ?_
        refine SX.seq ?_
        refine SX.seq ?_
        refine SX.region ?_
        refine SXL.move rfl ?_
        refine SXL.neqI rfl rfl ?_
        refine SXL.nil ?_
        refine thenQ.normal ?_
        refine SX.condP rfl (fun c22 => ?_) (fun c22 => ?_)
        · refine SX.seq ?_
          refine SX.region ?_
          refine SXL.buildS pl_23 zp_23 rfl rfl ?_
          refine SXL.move rfl ?_
          refine SXL.store 1 sz_23 rfl rfl rfl rfl rfl rfl ?_
          refine SXL.assign rfl ?_
          refine SXL.nil ?_
          refine thenQ.normal ?_
          refine SX.ret ?_
          refine thenQ.ret ?_
          refine retQ.two (ResAt.cellNo 1 sh_23 rfl rfl rfl) (ResAt.tmp rfl) ?_
          rw [givesLo, givesHi, ← hA, if_neg c22, if_neg c22]
        · refine SX.skip ?_
          refine thenQ.normal ?_
          refine SX.seq ?_
          have hc22 := Decidable.not_not.1 c22
          obtain ⟨hv, hwk, ht⟩ := toldE_valid (hA ▸ hc22)
          obtain ⟨rfl, rfl⟩ := hok hv ((hp hv).2 hwk) ht
          obtain ⟨g1, g2⟩ := outA_at (hA ▸ hc22)
          have hH := hv.1
          unfold HeadP at hH
          refine SX.region ?_
          refine SXL.move rfl ?_
          refine SXL.indexA el_114 rfl rfl (by omega) ?_
          refine SXL.loadNo 2 sh_23 rfl rfl (ints_take2' (M := outA s) (i := week.toNat) (by omega) (by rw [hO]; omega)) ?_
          refine SXL.store 1 sz_23 rfl rfl rfl rfl rfl rfl ?_
          refine SXL.assign rfl ?_
          refine SXL.nil ?_
          refine thenQ.normal ?_
          refine SX.ret ?_
          refine retQ.two (ResAt.cellNo 1 sh_23 rfl rfl rfl) (ResAt.tmp rfl) ?_
          rw [← hA, hc22, g1, g2]
      · refine (show SXL _ _ [_] _ _ from ?_)
        refine SXL.alloc zp_117 ?_; intro b4
        refine SXL.nil (stepQ.mk _ rfl rfl ?_)
        refine SXA.all [7] (by kernel_rfl) rfl ⟨⟨?_, rfl⟩, trivial⟩
        refine (show SXL _ _ [_] _ _ from ?_)
        refine SXL.callP (AskR s bo ro bc rc (Wi week 0 (IntKind.i64.wrap (s.weeks - 1))) 11) fn_75 rfl (fun w hI => asked_any s bo ro bc rc (Wi week 0 (IntKind.i64.wrap (s.weeks - 1))) 11 hb hr w (hg.inv hI) (hs.inv hI)) ?_; rintro _ ⟨W, O, hW1, hW2, hO, rfl, hok⟩
        refine SXL.nil (stepQ.mk _ rfl rfl ?_)
        refine SXA.take 8 2 rfl (by kernel_rfl) rfl ?_
        refine SXL.move rfl ?_
        refine SXL.extract rfl rfl ?_
        refine SXL.nil ⟨rfl, rfl, rfl, ?_⟩
        refine SXA.takeM 10 2 rfl (by kernel_rfl) rfl ?_
        refine SXL.extract rfl rfl ?_
        refine SXL.extract rfl rfl ?_
        refine SXL.nil ⟨rfl, rfl, rfl, ?_⟩
        refine SXA.all [14] (by kernel_rfl) rfl ⟨⟨?_, rfl⟩, trivial⟩
        refine (show SXL _ _ [_] _ _ from ?_)
        refine SXL.store 4 sz_117 rfl rfl rfl rfl hW1 (putAt_all _ _ (by simp [hW1])) ?_ hW2
        refine SXL.nil (stepQ.mkL _ (by kernel_rfl) rfl rfl ?_)
        refine SXA.all [15] (by kernel_rfl) rfl ⟨⟨?_, rfl⟩, trivial⟩
        refine (show SXL _ _ [_] _ _ from ?_)
        refine SXL.store 2 sz_114 rfl rfl rfl rfl (by simp [hO]) (putAt_all _ _ (by simp [hO])) ?_ (ints_isOne _)
        refine SXL.nil (stepQ.mkL _ (by kernel_rfl) rfl rfl ?_)
        refine SXA.takeM 16 1 rfl (by kernel_rfl) rfl ?_
        refine SXL.assign rfl ?_
        refine SXL.nil ⟨rfl, rfl, rfl, ?_⟩
        refine SXA.done (by kernel_rfl) ?_
        refine SXL.nil ?_
        refine thenQ.normal ?_
        refine SX.seq ?_
        refine SX.seq ?_
        refine SX.region ?_
        refine SXL.move rfl ?_
        refine SXL.neqI rfl rfl ?_
        refine SXL.nil ?_
        refine thenQ.normal ?_
        refine SX.condP rfl (fun c22 => ?_) (fun c22 => ?_)
        · refine SX.seq ?_
          refine SX.region ?_
          refine SXL.buildS pl_23 zp_23 rfl rfl ?_
          refine SXL.move rfl ?_
          refine SXL.store 1 sz_23 rfl rfl rfl rfl rfl rfl ?_
          refine SXL.assign rfl ?_
          refine SXL.nil ?_
          refine thenQ.normal ?_
          refine SX.ret ?_
          refine thenQ.ret ?_
          refine retQ.two (ResAt.cellNo 1 sh_23 rfl rfl rfl) (ResAt.tmp rfl) ?_
          rw [givesLo, givesHi, ← hA, if_neg c22, if_neg c22]
        · refine SX.skip ?_
          refine thenQ.normal ?_
          refine SX.seq ?_
          have hc22 := Decidable.not_not.1 c22
          obtain ⟨hv, hwk, ht⟩ := toldE_valid (hA ▸ hc22)
          obtain ⟨rfl, rfl⟩ := hok hv ((hp hv).2 hwk) ht
          obtain ⟨g1, g2⟩ := outA_at (hA ▸ hc22)
          have hH := hv.1
          unfold HeadP at hH
          refine SX.region ?_
          refine SXL.move rfl ?_
          refine SXL.indexA el_114 rfl rfl (by omega) ?_
          refine SXL.loadNo 2 sh_23 rfl rfl (ints_take2' (M := outA s) (i := week.toNat) (by omega) (by rw [hO]; omega)) ?_
          refine SXL.store 1 sz_23 rfl rfl rfl rfl rfl rfl ?_
          refine SXL.assign rfl ?_
          refine SXL.nil ?_
          refine thenQ.normal ?_
          refine SX.ret ?_
          refine retQ.two (ResAt.cellNo 1 sh_23 rfl rfl rfl) (ResAt.tmp rfl) ?_
          rw [← hA, hc22, g1, g2]
    · refine (show SXL _ _ [_] _ _ from ?_)
      refine SXL.alloc zp_117 ?_; intro b3
      refine SXL.nil (stepQ.mk _ rfl rfl ?_)
      refine SXA.all [5] (by kernel_rfl) rfl ⟨⟨?_, rfl⟩, trivial⟩
      refine (show SXL _ _ [_] _ _ from ?_)
      refine SXL.buildSlice et_35 zp_3 rfl rfl rfl rfl ?_; intro b4
      refine SXL.nil (stepQ.mk _ rfl rfl ?_)
      refine SXA.take 6 1 rfl (by kernel_rfl) rfl ?_
      refine SXL.call1 (.bool (decide (Wi week 0 (IntKind.i64.wrap (s.weeks - 1))))) fn_78 rfl (fun w hI => in1_own hI 4 week 0 (IntKind.i64.wrap (s.weeks - 1)) rfl) ?_
      refine SXL.nil ⟨rfl, rfl, rfl, ?_⟩
      refine SXA.all [7] (by kernel_rfl) rfl ⟨⟨?_, rfl⟩, trivial⟩
      refine (show SXL _ _ [_] _ _ from ?_)
      refine SXL.callP (AskR s bo ro bc rc (Wi week 0 (IntKind.i64.wrap (s.weeks - 1))) 11) fn_75 rfl (fun w hI => asked_any s bo ro bc rc (Wi week 0 (IntKind.i64.wrap (s.weeks - 1))) 11 hb hr w (hg.inv hI) (hs.inv hI)) ?_; rintro _ ⟨W, O, hW1, hW2, hO, rfl, hok⟩
      refine SXL.nil (stepQ.mk _ rfl rfl ?_)
      refine SXA.take 8 2 rfl (by kernel_rfl) rfl ?_
      refine SXL.move rfl ?_
      refine SXL.extract rfl rfl ?_
      refine SXL.nil ⟨rfl, rfl, rfl, ?_⟩
      refine SXA.takeM 10 2 rfl (by kernel_rfl) rfl ?_
      refine SXL.extract rfl rfl ?_
      refine SXL.extract rfl rfl ?_
      refine SXL.nil ⟨rfl, rfl, rfl, ?_⟩
      refine SXA.all [14] (by kernel_rfl) rfl ⟨⟨?_, rfl⟩, trivial⟩
      refine (show SXL _ _ [_] _ _ from ?_)
      refine SXL.store 3 sz_117 rfl rfl rfl rfl hW1 (putAt_all _ _ (by simp [hW1])) ?_ hW2
      refine SXL.nil (stepQ.mkL _ (by kernel_rfl) rfl rfl ?_)
      refine SXA.all [15] (by kernel_rfl) rfl ⟨⟨?_, rfl⟩, trivial⟩
      refine (show SXL _ _ [_] _ _ from ?_)
      refine SXL.store 2 sz_114 rfl rfl rfl rfl (by simp [hO]) (putAt_all _ _ (by simp [hO])) ?_ (ints_isOne _)
      refine SXL.nil (stepQ.mkL _ (by kernel_rfl) rfl rfl ?_)
      refine SXA.takeM 16 1 rfl (by kernel_rfl) rfl ?_
      refine SXL.assign rfl ?_
      refine SXL.nil ⟨rfl, rfl, rfl, ?_⟩
      refine SXA.done (by kernel_rfl) ?_
      refine SXL.nil ?_
      refine thenQ.normal ?_
      refine SX.seq ?_
      refine SX.seq ?_
      refine SX.region ?_
      refine SXL.move rfl ?_
      refine SXL.neqI rfl rfl ?_
      refine SXL.nil ?_
      refine thenQ.normal ?_
      refine SX.condP rfl (fun c22 => ?_) (fun c22 => ?_)
      · refine SX.seq ?_
        refine SX.region ?_
        refine SXL.buildS pl_23 zp_23 rfl rfl ?_
        refine SXL.move rfl ?_
        refine SXL.store 1 sz_23 rfl rfl rfl rfl rfl rfl ?_
        refine SXL.assign rfl ?_
        refine SXL.nil ?_
        refine thenQ.normal ?_
        refine SX.ret ?_
        refine thenQ.ret ?_
        refine retQ.two (ResAt.cellNo 1 sh_23 rfl rfl rfl) (ResAt.tmp rfl) ?_
        rw [givesLo, givesHi, ← hA, if_neg c22, if_neg c22]
      · refine SX.skip ?_
        refine thenQ.normal ?_
        refine SX.seq ?_
        have hc22 := Decidable.not_not.1 c22
        obtain ⟨hv, hwk, ht⟩ := toldE_valid (hA ▸ hc22)
        obtain ⟨rfl, rfl⟩ := hok hv ((hp hv).2 hwk) ht
        obtain ⟨g1, g2⟩ := outA_at (hA ▸ hc22)
        have hH := hv.1
        unfold HeadP at hH
        refine SX.region ?_
        refine SXL.move rfl ?_
        refine SXL.indexA el_114 rfl rfl (by omega) ?_
        refine SXL.loadNo 2 sh_23 rfl rfl (ints_take2' (M := outA s) (i := week.toNat) (by omega) (by rw [hO]; omega)) ?_
        refine SXL.store 1 sz_23 rfl rfl rfl rfl rfl rfl ?_
        refine SXL.assign rfl ?_
        refine SXL.nil ?_
        refine thenQ.normal ?_
        refine SX.ret ?_
        refine retQ.two (ResAt.cellNo 1 sh_23 rfl rfl rfl) (ResAt.tmp rfl) ?_
        rw [← hA, hc22, g1, g2]
theorem sknown_any (s : Sp) (bo ro : Option Addr) (bc rc : Nat) (week need : Int) (hb : s.book.length ≤ 1000000) (hr : s.reads.length ≤ 1000000) (w : World) (hg : Gl w) (hs : SpAt w s bo ro) :
    CallsR Tryd.prog 24 [.agg ⟨[.int .i64 s.weeks, .int .i64 s.most, .int .i64 s.fall, .int .i64 s.a0, .int .i64 s.a1, .int .i64 s.w0, .int .i64 s.w1, (.slice bo s.book.length bc), (.slice ro s.reads.length rc)]⟩, .int .i64 week, .int .i64 need] w (fun v _ => v = .tuple ⟨[.int .u8 (knownV s week need), .int .i64 (toldE s week)]⟩) := by
  refine CallsR.of_SX (n := 30) (rs := [.tmp 6, .tmp 7]) Tryd.func24 rfl rfl rfl rfl ?_
  show SX _ _ _ ⟨[(0, .agg ⟨[.int .i64 s.weeks, .int .i64 s.most, .int .i64 s.fall, .int .i64 s.a0, .int .i64 s.a1, .int .i64 s.w0, .int .i64 s.w1, (.slice bo s.book.length bc), (.slice ro s.reads.length rc)]⟩), (1, .int .i64 week), (2, .int .i64 need)], [], []⟩
  refine SX.seq ?_
  refine SX.region ?_
  refine SXL.box rfl rfl ?_; intro b0
  refine SXL.assign rfl ?_
  refine SXL.assign rfl ?_
  refine SXL.nil ?_
  refine thenQ.normal ?_
  refine SX.seq ?_
  refine SX.region ?_
  refine SXL.loadNo 0 sh_27 rfl rfl rfl ?_
  refine SXL.move rfl ?_
  refine SXL.call1 (.tuple ⟨[.agg ⟨[.int .i64 ((givesLo s week)), .int .i64 ((givesHi s week))]⟩, .int .i64 (toldE s week)]⟩) fn_22 rfl (fun w hI => sgives_any s bo ro _ _ _ hb hr _ (hg.inv hI) (hs.inv hI)) ?_
  refine SXL.move rfl ?_
  refine SXL.extract rfl rfl ?_
  refine SXL.extract rfl rfl ?_
  refine SXL.alloc zp_23 ?_; intro b1
  refine SXL.store 1 sz_23 rfl rfl rfl rfl rfl rfl ?_
  refine SXL.assign rfl ?_
  refine SXL.nil ?_
  refine thenQ.normal ?_
  refine SX.seq ?_
  refine SX.block ?_
  refine SX.seq ?_
  refine SX.region ?_
  refine SXL.move rfl ?_
  refine SXL.neqI rfl rfl ?_
  refine SXL.assign rfl ?_
  refine SXL.nil ?_
  refine thenQ.normal ?_
  refine SX.condP rfl (fun c17 => ?_) (fun c17 => ?_)
  · refine SX.seq ?_
    refine SX.region ?_
    refine SXL.move rfl ?_
    refine SXL.assign rfl ?_
    refine SXL.assign rfl ?_
    refine SXL.nil ?_
    refine thenQ.normal ?_
    refine SX.ret ?_
    refine blockQ.ret ?_
    refine thenQ.ret ?_
    refine retQ.two (ResAt.tmp rfl) (ResAt.tmp rfl) ?_
    rw [knownV, if_pos c17]
  · refine SX.seq ?_
    refine SX.region ?_
    refine SXL.fieldAddr fp_23_0 rfl ?_
    refine SXL.load1o 1 sh_3 rfl rfl rfl ?_
    refine SXL.move rfl ?_
    refine SXL.geq rfl rfl ?_
    refine SXL.assign rfl ?_
    refine SXL.nil ?_
    refine thenQ.normal ?_
    refine SX.condP rfl (fun c22 => ?_) (fun c22 => ?_)
    · refine SX.seq ?_
      refine SX.region ?_
      refine SXL.assign rfl ?_
      refine SXL.assign rfl ?_
      refine SXL.nil ?_
      refine thenQ.normal ?_
      refine SX.ret ?_
      refine blockQ.ret ?_
      refine thenQ.ret ?_
      refine retQ.two (ResAt.tmp rfl) (ResAt.tmp rfl) ?_
      rw [knownV, if_neg c17, if_pos c22, Decidable.not_not.1 c17]
    · refine SX.seq ?_
      refine SX.region ?_
      refine SXL.fieldAddr fp_23_1 rfl ?_
      refine SXL.load1o 1 sh_3 rfl rfl rfl ?_
      refine SXL.move rfl ?_
      refine SXL.lss rfl rfl ?_
      refine SXL.assign rfl ?_
      refine SXL.nil ?_
      refine thenQ.normal ?_
      refine SX.condP rfl (fun c26 => ?_) (fun c26 => ?_)
      · refine SX.seq ?_
        refine SX.region ?_
        refine SXL.assign rfl ?_
        refine SXL.assign rfl ?_
        refine SXL.nil ?_
        refine thenQ.normal ?_
        refine SX.ret ?_
        refine blockQ.ret ?_
        refine thenQ.ret ?_
        refine retQ.two (ResAt.tmp rfl) (ResAt.tmp rfl) ?_
        rw [knownV, if_neg c17, if_neg c22, if_pos c26, Decidable.not_not.1 c17]
      · refine SX.skip ?_
        refine blockQ.normal ?_
        refine thenQ.normal ?_
        refine SX.seq ?_
        refine SX.region ?_
        refine SXL.assign rfl ?_
        refine SXL.assign rfl ?_
        refine SXL.nil ?_
        refine thenQ.normal ?_
        refine SX.ret ?_
        refine retQ.two (ResAt.tmp rfl) (ResAt.tmp rfl) ?_
        rw [knownV, if_neg c17, if_neg c22, if_neg c26, Decidable.not_not.1 c17]
end Go.Proofs.YtknflipongbngaaDoor

/- The walks of functions. -/
namespace Go.Proofs.YtknflipongbngaaDoor
open Go.X Go.S
theorem within_any (n lo hi : Int) (w : World) :
    CallsR Tryd.prog 104 [.int .i64 n, .int .i64 lo, .int .i64 hi] w (fun v _ => v = .bool (decide (Wi n lo hi))) := by
  refine CallsR.of_SX (n := 15) (rs := [.tmp 6]) Tryd.func104 rfl rfl rfl rfl ?_
  show SX _ _ _ ⟨[(0, .int .i64 n), (1, .int .i64 lo), (2, .int .i64 hi)], [], []⟩
  refine SX.seq ?_
  refine SX.region ?_
  refine SXL.assign rfl ?_
  refine SXL.nil ?_
  refine thenQ.normal ?_
  refine SX.seq ?_
  refine SX.region ?_
  refine SXL.move rfl ?_
  refine SXL.move rfl ?_
  refine SXL.geq rfl rfl ?_
  refine SXL.move rfl ?_
  apply SXL.andG 3
  case hl => exact rfl
  case hd => exact rfl
  case hg => exact rfl
  case ht =>
    intro g1
    refine SXL.move rfl ?_
    refine SXL.move rfl ?_
    refine SXL.leq rfl rfl ?_
    exact SXL.nil (segQ.mk (.skip rfl (.skip rfl (.skip rfl (.skip rfl (EnvSub.refl _))))) rfl rfl ⟨rfl, rfl⟩)
  case hf =>
    intro g1
    refine SXL.pass rfl rfl rfl ?_
    refine SXL.pass rfl rfl rfl ?_
    refine SXL.pass rfl rfl rfl ?_
    exact SXL.nil (segQ.mk (.skip rfl (.skip rfl (.skip rfl (.skip rfl (EnvSub.refl _))))) rfl rfl rfl)
  refine SXL.assign rfl ?_
  refine SXL.nil ?_
  refine thenQ.normal ?_
  refine SX.ret ?_
  refine retQ.one (ResAt.tmp rfl) ?_
  first | rfl | assumption
theorem spanned_any (a b lo hi : Int) (w : World) :
    CallsR Tryd.prog 115 [.agg ⟨[.int .i64 a, .int .i64 b]⟩, .int .i64 lo, .int .i64 hi] w (fun v _ => v = .bool (decide (Spn a b lo hi))) := by
  refine CallsR.of_SX (n := 20) (rs := [.tmp 6]) Tryd.func115 rfl rfl rfl rfl ?_
  show SX _ _ _ ⟨[(0, .agg ⟨[.int .i64 a, .int .i64 b]⟩), (1, .int .i64 lo), (2, .int .i64 hi)], [], []⟩
  refine SX.seq ?_
  refine SX.region ?_
  refine SXL.box rfl rfl ?_; intro b0
  refine SXL.assign rfl ?_
  refine SXL.nil ?_
  refine thenQ.normal ?_
  refine SX.seq ?_
  refine SX.region ?_
  refine SXL.fieldAddr fp_23_1 rfl ?_
  refine SXL.load1o 0 sh_3 rfl rfl rfl ?_
  refine SXL.move rfl ?_
  refine SXL.move rfl ?_
  refine SXL.call1 (.bool (decide (Wi b lo hi))) fn_104 rfl (fun w hI => within_any _ _ _ _) ?_
  refine SXL.move rfl ?_
  apply SXL.andG 6
  case hl => exact rfl
  case hd => exact rfl
  case hg => exact rfl
  case ht =>
    intro g1
    refine SXL.fieldAddr fp_23_0 rfl ?_
    refine SXL.load1o 0 sh_3 rfl rfl rfl ?_
    refine SXL.move rfl ?_
    refine SXL.fieldAddr fp_23_1 rfl ?_
    refine SXL.load1o 0 sh_3 rfl rfl rfl ?_
    refine SXL.call1 (.bool (decide (Wi a lo b))) fn_104 rfl (fun w hI => within_any _ _ _ _) ?_
    exact SXL.nil (segQ.mk (.skip rfl (.skip rfl (.skip rfl (.skip rfl (.skip rfl (.skip rfl (.skip rfl (EnvSub.refl _)))))))) rfl rfl ⟨rfl, rfl⟩)
  case hf =>
    intro g1
    refine SXL.pass rfl rfl rfl ?_
    refine SXL.pass rfl rfl rfl ?_
    refine SXL.pass rfl rfl rfl ?_
    refine SXL.pass rfl rfl rfl ?_
    refine SXL.pass rfl rfl rfl ?_
    refine SXL.pass rfl rfl rfl ?_
    exact SXL.nil (segQ.mk (.skip rfl (.skip rfl (.skip rfl (.skip rfl (.skip rfl (.skip rfl (.skip rfl (EnvSub.refl _)))))))) rfl rfl rfl)
  refine SXL.assign rfl ?_
  refine SXL.nil ?_
  refine thenQ.normal ?_
  refine SX.ret ?_
  refine retQ.one (ResAt.tmp rfl) ?_
  first | rfl | assumption
theorem reading_any (x : Rd) (weeks : Int) (hw : -9223372036854775807 ≤ weeks) (hw2 : weeks ≤ 9223372036854775807) (w : World) :
    CallsR Tryd.prog 71 [.agg ⟨x.cells⟩, .int .i64 weeks] w (fun v _ => v = .bool (decide (RdP x weeks))) := by
  refine CallsR.of_SX (n := 31) (rs := [.tmp 4]) Tryd.func71 rfl rfl rfl rfl ?_
  show SX _ _ _ ⟨[(0, .agg ⟨x.cells⟩), (1, .int .i64 weeks)], [], []⟩
  refine SX.seq ?_
  refine SX.region ?_
  refine SXL.box rfl rfl ?_; intro b0
  refine SXL.assign rfl ?_
  refine SXL.nil ?_
  refine thenQ.normal ?_
  refine SX.seq ?_
  refine SX.region ?_
  refine SXL.fieldAddr fp_54_0 rfl ?_
  refine SXL.load1o 0 sh_3 rfl rfl rfl ?_
  refine SXL.call1 (.bool (decide (Wi x.num 1 9999))) fn_104 rfl (fun w hI => within_any _ _ _ _) ?_
  refine SXL.move rfl ?_
  apply SXL.andG 5
  case hl => exact rfl
  case hd => exact rfl
  case hg => exact rfl
  case ht =>
    intro g1
    refine SXL.fieldAddr fp_54_1 rfl ?_
    refine SXL.load1o 0 sh_3 rfl rfl rfl ?_
    refine SXL.move rfl ?_
    refine SXL.sub rfl rfl (by omega) ?_
    refine SXL.call1 (.bool (decide (Wi x.wk 0 (weeks - 1)))) fn_104 rfl (fun w hI => within_any _ _ _ _) ?_
    exact SXL.nil (segQ.mk (.skip rfl (.skip rfl (.skip rfl (.skip rfl (.skip rfl (.skip rfl (EnvSub.refl _))))))) rfl rfl ⟨rfl, rfl⟩)
  case hf =>
    intro g1
    refine SXL.pass rfl rfl rfl ?_
    refine SXL.pass rfl rfl rfl ?_
    refine SXL.pass rfl rfl rfl ?_
    refine SXL.pass rfl rfl rfl ?_
    refine SXL.pass rfl rfl rfl ?_
    exact SXL.nil (segQ.mk (.skip rfl (.skip rfl (.skip rfl (.skip rfl (.skip rfl (.skip rfl (EnvSub.refl _))))))) rfl rfl rfl)
  refine SXL.move rfl ?_
  apply SXL.andG 3
  case hl => exact rfl
  case hd => exact rfl
  case hg => exact rfl
  case ht =>
    intro g2
    refine SXL.fieldAddr fp_54_2 rfl ?_
    refine SXL.load1o 0 sh_3 rfl rfl rfl ?_
    refine SXL.call1 (.bool (decide (Wi x.bu 1 40))) fn_104 rfl (fun w hI => within_any _ _ _ _) ?_
    exact SXL.nil (segQ.mk (.skip rfl (.skip rfl (.skip rfl (.skip rfl (EnvSub.refl _))))) rfl rfl ⟨rfl, rfl⟩)
  case hf =>
    intro g2
    refine SXL.pass rfl rfl rfl ?_
    refine SXL.pass rfl rfl rfl ?_
    refine SXL.pass rfl rfl rfl ?_
    exact SXL.nil (segQ.mk (.skip rfl (.skip rfl (.skip rfl (.skip rfl (EnvSub.refl _))))) rfl rfl rfl)
  refine SXL.move rfl ?_
  apply SXL.andG 3
  case hl => exact rfl
  case hd => exact rfl
  case hg => exact rfl
  case ht =>
    intro g3
    refine SXL.fieldAddr fp_54_3 rfl ?_
    refine SXL.loadNo 0 sh_23 rfl rfl rfl ?_
    refine SXL.call1 (.bool (decide (Spn x.s0 x.s1 0 99))) fn_115 rfl (fun w hI => spanned_any _ _ _ _ _) ?_
    exact SXL.nil (segQ.mk (.skip rfl (.skip rfl (.skip rfl (.skip rfl (EnvSub.refl _))))) rfl rfl ⟨rfl, rfl⟩)
  case hf =>
    intro g3
    refine SXL.pass rfl rfl rfl ?_
    refine SXL.pass rfl rfl rfl ?_
    refine SXL.pass rfl rfl rfl ?_
    exact SXL.nil (segQ.mk (.skip rfl (.skip rfl (.skip rfl (.skip rfl (EnvSub.refl _))))) rfl rfl rfl)
  refine SXL.move rfl ?_
  apply SXL.andG 4
  case hl => exact rfl
  case hd => exact rfl
  case hg => exact rfl
  case ht =>
    intro g4
    refine SXL.fieldAddr fp_54_3 rfl ?_
    refine SXL.fieldAddr fp_23_1 rfl ?_
    refine SXL.load1o 0 sh_3 rfl rfl rfl ?_
    refine SXL.gtr rfl rfl ?_
    exact SXL.nil (segQ.mk (.skip rfl (.skip rfl (.skip rfl (.skip rfl (.skip rfl (EnvSub.refl _)))))) rfl rfl ⟨rfl, rfl⟩)
  case hf =>
    intro g4
    refine SXL.pass rfl rfl rfl ?_
    refine SXL.pass rfl rfl rfl ?_
    refine SXL.pass rfl rfl rfl ?_
    refine SXL.pass rfl rfl rfl ?_
    exact SXL.nil (segQ.mk (.skip rfl (.skip rfl (.skip rfl (.skip rfl (.skip rfl (EnvSub.refl _)))))) rfl rfl rfl)
  refine SXL.assign rfl ?_
  refine SXL.nil ?_
  refine thenQ.normal ?_
  refine SX.ret ?_
  refine retQ.one (ResAt.tmp rfl) ?_
  first | rfl | assumption
theorem right_any (s : Sp) (bo ro : Option Addr) (bc rc : Nat) (x : Rd) (n : Int) (h1 : Spn s.a0 s.a1 1 600) (h2 : Spn x.s0 x.s1 0 99) (h3 : Wi x.bu 1 40) (h4 : Wi n 0 100) (w : World) :
    CallsR Tryd.prog 82 [.agg ⟨[.int .i64 s.weeks, .int .i64 s.most, .int .i64 s.fall, .int .i64 s.a0, .int .i64 s.a1, .int .i64 s.w0, .int .i64 s.w1, (.slice bo s.book.length bc), (.slice ro s.reads.length rc)]⟩, .agg ⟨x.cells⟩, .int .i64 n] w (fun v _ => v = .bool (decide (Right s x n))) := by
  have m1 := mul3 (a := x.s0) (b := s.a0) (c := n) (A := 99) (B := 600) (D := 100) (by omega) (by omega) (by omega) (by omega) (by omega) (by omega)
  have m2 := mul3 (a := x.s1) (b := s.a1) (c := n) (A := 99) (B := 600) (D := 100) (by omega) (by omega) (by omega) (by omega) (by omega) (by omega)
  refine CallsR.of_SX (n := 39) (rs := [.tmp 6]) Tryd.func82 rfl rfl rfl rfl ?_
  show SX _ _ _ ⟨[(0, .agg ⟨[.int .i64 s.weeks, .int .i64 s.most, .int .i64 s.fall, .int .i64 s.a0, .int .i64 s.a1, .int .i64 s.w0, .int .i64 s.w1, (.slice bo s.book.length bc), (.slice ro s.reads.length rc)]⟩), (1, .agg ⟨x.cells⟩), (2, .int .i64 n)], [], []⟩
  refine SX.seq ?_
  refine SX.region ?_
  refine SXL.box rfl rfl ?_; intro b0
  refine SXL.box rfl rfl ?_; intro b1
  refine SXL.assign rfl ?_
  refine SXL.nil ?_
  refine thenQ.normal ?_
  refine SX.seq ?_
  refine SX.region ?_
  refine SXL.move rfl ?_
  refine SXL.gtr rfl rfl ?_
  refine SXL.move rfl ?_
  apply SXL.andG 13
  case hl => exact rfl
  case hd => exact rfl
  case hg => exact rfl
  case ht =>
    intro g1
    refine SXL.fieldAddr fp_54_3 rfl ?_
    refine SXL.fieldAddr fp_23_0 rfl ?_
    refine SXL.load1o 1 sh_3 rfl rfl rfl ?_
    refine SXL.fieldAddr fp_27_3 rfl ?_
    refine SXL.fieldAddr fp_23_0 rfl ?_
    refine SXL.load1o 0 sh_3 rfl rfl rfl ?_
    refine SXL.mul rfl rfl (by omega) ?_
    refine SXL.move rfl ?_
    refine SXL.mul rfl rfl (by omega) ?_
    refine SXL.fieldAddr fp_54_2 rfl ?_
    refine SXL.load1o 1 sh_3 rfl rfl rfl ?_
    refine SXL.mul rfl rfl (by omega) ?_
    refine SXL.leq rfl rfl ?_
    exact SXL.nil (segQ.mk (.skip rfl (.skip rfl (.skip rfl (.skip rfl (.skip rfl (.skip rfl (.skip rfl (.skip rfl (.skip rfl (.skip rfl (.skip rfl (.skip rfl (.skip rfl (.skip rfl (EnvSub.refl _))))))))))))))) rfl rfl ⟨rfl, rfl⟩)
  case hf =>
    intro g1
    refine SXL.pass rfl rfl rfl ?_
    refine SXL.pass rfl rfl rfl ?_
    refine SXL.pass rfl rfl rfl ?_
    refine SXL.pass rfl rfl rfl ?_
    refine SXL.pass rfl rfl rfl ?_
    refine SXL.pass rfl rfl rfl ?_
    refine SXL.pass rfl rfl rfl ?_
    refine SXL.pass rfl rfl rfl ?_
    refine SXL.pass rfl rfl rfl ?_
    refine SXL.pass rfl rfl rfl ?_
    refine SXL.pass rfl rfl rfl ?_
    refine SXL.pass rfl rfl rfl ?_
    refine SXL.pass rfl rfl rfl ?_
    exact SXL.nil (segQ.mk (.skip rfl (.skip rfl (.skip rfl (.skip rfl (.skip rfl (.skip rfl (.skip rfl (.skip rfl (.skip rfl (.skip rfl (.skip rfl (.skip rfl (.skip rfl (.skip rfl (EnvSub.refl _))))))))))))))) rfl rfl rfl)
  refine SXL.move rfl ?_
  apply SXL.andG 13
  case hl => exact rfl
  case hd => exact rfl
  case hg => exact rfl
  case ht =>
    intro g2
    refine SXL.fieldAddr fp_54_2 rfl ?_
    refine SXL.load1o 1 sh_3 rfl rfl rfl ?_
    refine SXL.mul rfl rfl (by omega) ?_
    refine SXL.fieldAddr fp_54_3 rfl ?_
    refine SXL.fieldAddr fp_23_1 rfl ?_
    refine SXL.load1o 1 sh_3 rfl rfl rfl ?_
    refine SXL.fieldAddr fp_27_3 rfl ?_
    refine SXL.fieldAddr fp_23_1 rfl ?_
    refine SXL.load1o 0 sh_3 rfl rfl rfl ?_
    refine SXL.mul rfl rfl (by omega) ?_
    refine SXL.move rfl ?_
    refine SXL.mul rfl rfl (by omega) ?_
    refine SXL.leq rfl rfl ?_
    exact SXL.nil (segQ.mk (.skip rfl (.skip rfl (.skip rfl (.skip rfl (.skip rfl (.skip rfl (.skip rfl (.skip rfl (.skip rfl (.skip rfl (.skip rfl (.skip rfl (.skip rfl (.skip rfl (EnvSub.refl _))))))))))))))) rfl rfl ⟨rfl, rfl⟩)
  case hf =>
    intro g2
    refine SXL.pass rfl rfl rfl ?_
    refine SXL.pass rfl rfl rfl ?_
    refine SXL.pass rfl rfl rfl ?_
    refine SXL.pass rfl rfl rfl ?_
    refine SXL.pass rfl rfl rfl ?_
    refine SXL.pass rfl rfl rfl ?_
    refine SXL.pass rfl rfl rfl ?_
    refine SXL.pass rfl rfl rfl ?_
    refine SXL.pass rfl rfl rfl ?_
    refine SXL.pass rfl rfl rfl ?_
    refine SXL.pass rfl rfl rfl ?_
    refine SXL.pass rfl rfl rfl ?_
    refine SXL.pass rfl rfl rfl ?_
    exact SXL.nil (segQ.mk (.skip rfl (.skip rfl (.skip rfl (.skip rfl (.skip rfl (.skip rfl (.skip rfl (.skip rfl (.skip rfl (.skip rfl (.skip rfl (.skip rfl (.skip rfl (.skip rfl (EnvSub.refl _))))))))))))))) rfl rfl rfl)
  refine SXL.assign rfl ?_
  refine SXL.nil ?_
  refine thenQ.normal ?_
  refine SX.ret ?_
  refine retQ.one (ResAt.tmp rfl) ?_
  first | rfl | assumption
theorem spring_any (s : Sp) (bo ro : Option Addr) (bc rc : Nat) (w : World) (hs : SpAt w s bo ro) :
    CallsR Tryd.prog 74 [.agg ⟨[.int .i64 s.weeks, .int .i64 s.most, .int .i64 s.fall, .int .i64 s.a0, .int .i64 s.a1, .int .i64 s.w0, .int .i64 s.w1, (.slice bo s.book.length bc), (.slice ro s.reads.length rc)]⟩] w (fun v _ => v = .bool (decide (SpP s))) := by
  refine CallsR.of_SX (n := 104) (rs := [.tmp 2]) Tryd.func74 rfl rfl rfl rfl ?_
  show SX _ _ _ ⟨[(0, .agg ⟨[.int .i64 s.weeks, .int .i64 s.most, .int .i64 s.fall, .int .i64 s.a0, .int .i64 s.a1, .int .i64 s.w0, .int .i64 s.w1, (.slice bo s.book.length bc), (.slice ro s.reads.length rc)]⟩)], [], []⟩
  refine SX.seq ?_
  refine SX.region ?_
  refine SXL.box rfl rfl ?_; intro b0
  refine SXL.assign rfl ?_
  refine SXL.nil ?_
  refine thenQ.normal ?_
  refine SX.seq ?_
  refine SX.seq ?_
  refine SX.region ?_
  refine SXL.fieldAddr fp_27_0 rfl ?_
  refine SXL.load1o 0 sh_3 rfl rfl rfl ?_
  refine SXL.call1 (.bool (decide (Wi s.weeks 1 10))) fn_104 rfl (fun w hI => within_any _ _ _ _) ?_
  refine SXL.not rfl ?_
  refine SXL.move rfl ?_
  apply SXL.orG 4
  case hl => exact rfl
  case hd => exact rfl
  case hg => exact rfl
  case ht =>
    intro g1
    refine SXL.pass rfl rfl rfl ?_
    refine SXL.pass rfl rfl rfl ?_
    refine SXL.pass rfl rfl rfl ?_
    refine SXL.pass rfl rfl rfl ?_
    exact SXL.nil (segQ.mk (.skip rfl (.skip rfl (.skip rfl (.skip rfl (.skip rfl (EnvSub.refl _)))))) rfl rfl rfl)
  case hf =>
    intro g1
    refine SXL.fieldAddr fp_27_1 rfl ?_
    refine SXL.load1o 0 sh_3 rfl rfl rfl ?_
    refine SXL.call1 (.bool (decide (Wi s.most 0 100))) fn_104 rfl (fun w hI => within_any _ _ _ _) ?_
    refine SXL.not rfl ?_
    exact SXL.nil (segQ.mk (.skip rfl (.skip rfl (.skip rfl (.skip rfl (.skip rfl (EnvSub.refl _)))))) rfl rfl ⟨rfl, rfl⟩)
  refine SXL.move rfl ?_
  apply SXL.orG 4
  case hl => exact rfl
  case hd => exact rfl
  case hg => exact rfl
  case ht =>
    intro g2
    refine SXL.pass rfl rfl rfl ?_
    refine SXL.pass rfl rfl rfl ?_
    refine SXL.pass rfl rfl rfl ?_
    refine SXL.pass rfl rfl rfl ?_
    exact SXL.nil (segQ.mk (.skip rfl (.skip rfl (.skip rfl (.skip rfl (.skip rfl (EnvSub.refl _)))))) rfl rfl rfl)
  case hf =>
    intro g2
    refine SXL.fieldAddr fp_27_2 rfl ?_
    refine SXL.load1o 0 sh_3 rfl rfl rfl ?_
    refine SXL.call1 (.bool (decide (Wi s.fall 0 100))) fn_104 rfl (fun w hI => within_any _ _ _ _) ?_
    refine SXL.not rfl ?_
    exact SXL.nil (segQ.mk (.skip rfl (.skip rfl (.skip rfl (.skip rfl (.skip rfl (EnvSub.refl _)))))) rfl rfl ⟨rfl, rfl⟩)
  refine SXL.move rfl ?_
  apply SXL.orG 4
  case hl => exact rfl
  case hd => exact rfl
  case hg => exact rfl
  case ht =>
    intro g3
    refine SXL.pass rfl rfl rfl ?_
    refine SXL.pass rfl rfl rfl ?_
    refine SXL.pass rfl rfl rfl ?_
    refine SXL.pass rfl rfl rfl ?_
    exact SXL.nil (segQ.mk (.skip rfl (.skip rfl (.skip rfl (.skip rfl (.skip rfl (EnvSub.refl _)))))) rfl rfl rfl)
  case hf =>
    intro g3
    refine SXL.fieldAddr fp_27_3 rfl ?_
    refine SXL.loadNo 0 sh_23 rfl rfl rfl ?_
    refine SXL.call1 (.bool (decide (Spn s.a0 s.a1 1 600))) fn_115 rfl (fun w hI => spanned_any _ _ _ _ _) ?_
    refine SXL.not rfl ?_
    exact SXL.nil (segQ.mk (.skip rfl (.skip rfl (.skip rfl (.skip rfl (.skip rfl (EnvSub.refl _)))))) rfl rfl ⟨rfl, rfl⟩)
  refine SXL.move rfl ?_
  apply SXL.orG 4
  case hl => exact rfl
  case hd => exact rfl
  case hg => exact rfl
  case ht =>
    intro g4
    refine SXL.pass rfl rfl rfl ?_
    refine SXL.pass rfl rfl rfl ?_
    refine SXL.pass rfl rfl rfl ?_
    refine SXL.pass rfl rfl rfl ?_
    exact SXL.nil (segQ.mk (.skip rfl (.skip rfl (.skip rfl (.skip rfl (.skip rfl (EnvSub.refl _)))))) rfl rfl rfl)
  case hf =>
    intro g4
    refine SXL.fieldAddr fp_27_4 rfl ?_
    refine SXL.loadNo 0 sh_23 rfl rfl rfl ?_
    refine SXL.call1 (.bool (decide (Spn s.w0 s.w1 0 20))) fn_115 rfl (fun w hI => spanned_any _ _ _ _ _) ?_
    refine SXL.not rfl ?_
    exact SXL.nil (segQ.mk (.skip rfl (.skip rfl (.skip rfl (.skip rfl (.skip rfl (EnvSub.refl _)))))) rfl rfl ⟨rfl, rfl⟩)
  refine SXL.move rfl ?_
  apply SXL.orG 4
  case hl => exact rfl
  case hd => exact rfl
  case hg => exact rfl
  case ht =>
    intro g5
    refine SXL.pass rfl rfl rfl ?_
    refine SXL.pass rfl rfl rfl ?_
    refine SXL.pass rfl rfl rfl ?_
    refine SXL.pass rfl rfl rfl ?_
    exact SXL.nil (segQ.mk (.skip rfl (.skip rfl (.skip rfl (.skip rfl (.skip rfl (EnvSub.refl _)))))) rfl rfl rfl)
  case hf =>
    intro g5
    refine SXL.fieldAddr fp_27_5 rfl ?_
    refine SXL.load1o 0 sh_24 rfl rfl rfl ?_
    refine SXL.len is_24 rfl ?_
    refine SXL.gtr rfl rfl ?_
    exact SXL.nil (segQ.mk (.skip rfl (.skip rfl (.skip rfl (.skip rfl (.skip rfl (EnvSub.refl _)))))) rfl rfl ⟨rfl, rfl⟩)
  refine SXL.move rfl ?_
  apply SXL.orG 4
  case hl => exact rfl
  case hd => exact rfl
  case hg => exact rfl
  case ht =>
    intro c0
    refine SXL.pass rfl rfl rfl ?_
    refine SXL.pass rfl rfl rfl ?_
    refine SXL.pass rfl rfl rfl ?_
    refine SXL.pass rfl rfl rfl ?_
    exact SXL.nil (segQ.mk (.skip rfl (.skip rfl (.skip rfl (.skip rfl (.skip rfl (EnvSub.refl _)))))) rfl rfl rfl)
  case hf =>
    intro c0
    refine SXL.fieldAddr fp_27_6 rfl ?_
    refine SXL.load1o 0 sh_25 rfl rfl rfl ?_
    refine SXL.len is_25 rfl ?_
    refine SXL.gtr rfl rfl ?_
    exact SXL.nil (segQ.mk (.skip rfl (.skip rfl (.skip rfl (.skip rfl (.skip rfl (EnvSub.refl _)))))) rfl rfl ⟨rfl, rfl⟩)
  refine SXL.nil ?_
  refine thenQ.normal ?_
  refine SX.condP rfl (fun c0 => ?_) (fun c0 => ?_)
  · refine SX.seq ?_
    refine SX.region ?_
    refine SXL.assign rfl ?_
    refine SXL.nil ?_
    refine thenQ.normal ?_
    refine SX.ret ?_
    refine thenQ.ret ?_
    refine retQ.one (ResAt.tmp rfl) ?_
    exact congrArg Value.bool (decide_eq_false (by intro h; have h1 := h.1; unfold HeadP at h1; omega)).symm
  · refine SX.skip ?_
    refine thenQ.normal ?_
    refine SX.seq ?_
    refine SX.seq ?_
    refine SX.region ?_
    refine SXL.fieldAddr fp_27_5 rfl ?_
    refine SXL.load1o 0 sh_24 rfl rfl rfl ?_
    refine SXL.len is_24 rfl ?_
    refine SXL.move rfl ?_
    refine SXL.nil ?_
    refine thenQ.normal ?_
    refine SX.block ?_
    refine SX.loopG (α := Nat) [1, 2, 48, 49] rfl (fun k => [(50, .int .i64 (k : Int))]) (fun k => []) (fun k => k ≤ s.book.length ∧ ∀ i, i < k → (h : i < s.book.length) → LnP s.book[i] s.weeks) (fun k => s.book.length - k) 0 ⟨Nat.zero_le _, fun _ h => absurd h (Nat.not_lt_zero _)⟩ ⟨rfl, trivial⟩ rfl ?_
    rintro k ⟨hkl, hall⟩
    refine SX.seq ?_
    refine SX.region ?_
    refine SXL.lss rfl rfl ?_
    refine SXL.nil ?_
    refine thenQ.normal ?_
    refine SX.seq ?_
    refine SX.condP rfl (fun c1 => ?_) (fun c1 => ?_)
    · refine SX.skip ?_
      refine thenQ.normal ?_
      refine SX.seq ?_
      refine SX.block ?_
      refine SX.seq ?_
      have hk : k < s.book.length := by omega
      obtain ⟨b, o, ha, hm⟩ := hs.line hk
      refine SX.region ?_
      refine SXL.indexR el_24 rfl rfl ha (by omega) ?_
      refine SXL.loadN sh_61 rfl (hm _) rfl ?_
      refine SXL.alloc zp_61 ?_; intro b1
      refine SXL.store 1 sz_61 rfl rfl rfl rfl rfl rfl ?_
      refine SXL.nil ?_
      refine thenQ.normal ?_
      refine SX.seq ?_
      refine SX.region ?_
      refine SXL.fieldAddr fp_61_0 rfl ?_
      refine SXL.loadNo 1 sh_23 rfl rfl rfl ?_
      refine SXL.call1 (.bool (decide (Spn s.book[k].r0 s.book[k].r1 0 20))) fn_115 rfl (fun w hI => spanned_any _ _ _ _ _) ?_
      refine SXL.not rfl ?_
      refine SXL.move rfl ?_
      apply SXL.orG 7
      case hl => exact rfl
      case hd => exact rfl
      case hg => exact rfl
      case ht =>
        intro g9
        refine SXL.pass rfl rfl rfl ?_
        refine SXL.pass rfl rfl rfl ?_
        refine SXL.pass rfl rfl rfl ?_
        refine SXL.pass rfl rfl rfl ?_
        refine SXL.pass rfl rfl rfl ?_
        refine SXL.pass rfl rfl rfl ?_
        refine SXL.pass rfl rfl rfl ?_
        exact SXL.nil (segQ.mk (.skip rfl (.skip rfl (.skip rfl (.skip rfl (.skip rfl (.skip rfl (.skip rfl (.skip rfl (EnvSub.refl _))))))))) rfl rfl rfl)
      case hf =>
        intro g9
        refine SXL.fieldAddr fp_61_1 rfl ?_
        refine SXL.load1o 1 sh_3 rfl rfl rfl ?_
        refine SXL.fieldAddr fp_27_0 rfl ?_
        refine SXL.load1o 0 sh_3 rfl rfl rfl ?_
        refine SXL.sub rfl rfl (by omega) ?_
        refine SXL.call1 (.bool (decide (Wi s.book[k].wk 0 (s.weeks - 1)))) fn_104 rfl (fun w hI => within_any _ _ _ _) ?_
        refine SXL.not rfl ?_
        exact SXL.nil (segQ.mk (.skip rfl (.skip rfl (.skip rfl (.skip rfl (.skip rfl (.skip rfl (.skip rfl (.skip rfl (EnvSub.refl _))))))))) rfl rfl ⟨rfl, rfl⟩)
      refine SXL.move rfl ?_
      apply SXL.orG 4
      case hl => exact rfl
      case hd => exact rfl
      case hg => exact rfl
      case ht =>
        intro c2
        refine SXL.pass rfl rfl rfl ?_
        refine SXL.pass rfl rfl rfl ?_
        refine SXL.pass rfl rfl rfl ?_
        refine SXL.pass rfl rfl rfl ?_
        exact SXL.nil (segQ.mk (.skip rfl (.skip rfl (.skip rfl (.skip rfl (.skip rfl (EnvSub.refl _)))))) rfl rfl rfl)
      case hf =>
        intro c2
        refine SXL.fieldAddr fp_61_2 rfl ?_
        refine SXL.loadNo 1 sh_23 rfl rfl rfl ?_
        refine SXL.call1 (.bool (decide (Spn s.book[k].g0 s.book[k].g1 0 100))) fn_115 rfl (fun w hI => spanned_any _ _ _ _ _) ?_
        refine SXL.not rfl ?_
        exact SXL.nil (segQ.mk (.skip rfl (.skip rfl (.skip rfl (.skip rfl (.skip rfl (EnvSub.refl _)))))) rfl rfl ⟨rfl, rfl⟩)
      refine SXL.nil ?_
      refine thenQ.normal ?_
      refine SX.condP rfl (fun c2 => ?_) (fun c2 => ?_)
      · refine SX.seq ?_
        refine SX.region ?_
        refine SXL.assign rfl ?_
        refine SXL.nil ?_
        refine thenQ.normal ?_
        refine SX.ret ?_
        refine blockQ.ret ?_
        refine thenQ.ret ?_
        refine thenQ.ret ?_
        refine blockQ.ret ?_
        refine thenQ.ret ?_
        refine retQ.one (ResAt.tmp rfl) ?_
        exact congrArg Value.bool (decide_eq_false (by intro h; have h1 := h.2.1 k hk; omega)).symm
      · refine SX.skip ?_
        refine blockQ.normal ?_
        refine thenQ.normal ?_
        refine SX.region ?_
        refine SXL.add rfl rfl (by omega) ?_
        refine SXL.move rfl ?_
        refine SXL.nil ?_
        refine thenQ.normal ?_
        refine ⟨k + 1, Meets.mk _ ⟨rfl, trivial⟩ ⟨rfl, rfl, rfl, rfl, trivial⟩ rfl, ?_, by omega⟩
        refine ⟨by omega, fun i hi h => ?_⟩
        by_cases hik : i = k
        · subst hik; omega
        · exact hall i (by omega) h
    · refine SX.exit ?_
      refine thenQ.exit ?_
      refine thenQ.exit ?_
      refine blockQ.exit ?_
      refine thenQ.normal ?_
      refine SX.seq ?_
      refine SX.seq ?_
      refine SX.region ?_
      refine SXL.fieldAddr fp_27_6 rfl ?_
      refine SXL.load1o 0 sh_25 rfl rfl rfl ?_
      refine SXL.len is_25 rfl ?_
      refine SXL.move rfl ?_
      refine SXL.nil ?_
      refine thenQ.normal ?_
      refine SX.block ?_
      refine SX.loopG (α := Nat) [1, 2, 75, 76] rfl (fun k => [(77, .int .i64 (k : Int))]) (fun k => []) (fun k => k ≤ s.reads.length ∧ ∀ i, i < k → (h : i < s.reads.length) → RdP s.reads[i] s.weeks ∧ (0 < i → (s.reads.getD (i - 1) default).num < s.reads[i].num)) (fun k => s.reads.length - k) 0 ⟨Nat.zero_le _, fun _ h => absurd h (Nat.not_lt_zero _)⟩ ⟨rfl, trivial⟩ rfl ?_
      rintro k ⟨hkl2, hall2⟩
      refine SX.seq ?_
      refine SX.region ?_
      refine SXL.lss rfl rfl ?_
      refine SXL.nil ?_
      refine thenQ.normal ?_
      refine SX.seq ?_
      refine SX.condP rfl (fun c3 => ?_) (fun c3 => ?_)
      · refine SX.skip ?_
        refine thenQ.normal ?_
        refine SX.seq ?_
        refine SX.block ?_
        refine SX.seq ?_
        have hk : k < s.reads.length := by omega
        obtain ⟨b, o, ha, hm⟩ := hs.read hk
        refine SX.region ?_
        refine SXL.move rfl ?_
        refine SXL.indexR el_25 rfl rfl ha (by omega) ?_
        refine SXL.loadN sh_54 rfl (hm _) rfl ?_
        refine SXL.alloc zp_54 ?_; intro b1
        refine SXL.assign rfl ?_
        refine SXL.store 1 sz_54 rfl rfl rfl rfl rfl rfl ?_
        refine SXL.nil ?_
        refine thenQ.normal ?_
        refine SX.seq ?_
        refine SX.draw 21 (by kernel_rfl) (by kernel_rfl) {} ?_
        refine SXA.take 0 21 rfl (by kernel_rfl) rfl ?_
        refine SXL.loadNo 1 sh_54 rfl rfl rfl ?_
        refine SXL.fieldAddr fp_27_0 rfl ?_
        refine SXL.load1o 0 sh_3 rfl rfl rfl ?_
        refine SXL.call1 (.bool (decide (RdP s.reads[k] s.weeks))) fn_71 rfl (fun w hI => reading_any _ _ (by omega) (by omega) _) ?_
        refine SXL.not rfl ?_
        refine SXL.move rfl ?_
        apply SXL.orG 14
        case hl => exact rfl
        case hd => exact rfl
        case hg => exact rfl
        case ht =>
          intro c4
          refine SXL.pass rfl rfl rfl ?_
          refine SXL.pass rfl rfl rfl ?_
          refine SXL.pass rfl rfl rfl ?_
          refine SXL.pass rfl rfl rfl ?_
          refine SXL.pass rfl rfl rfl ?_
          refine SXL.pass rfl rfl rfl ?_
          refine SXL.pass rfl rfl rfl ?_
          refine SXL.pass rfl rfl rfl ?_
          refine SXL.pass rfl rfl rfl ?_
          refine SXL.pass rfl rfl rfl ?_
          refine SXL.pass rfl rfl rfl ?_
          refine SXL.pass rfl rfl rfl ?_
          refine SXL.pass rfl rfl rfl ?_
          refine SXL.pass rfl rfl rfl ?_
          exact SXL.nil (segQ.mk (.skip rfl (.skip rfl (.skip rfl (.skip rfl (.skip rfl (.skip rfl (.skip rfl (.skip rfl (.skip rfl (.skip rfl (.skip rfl (.skip rfl (.skip rfl (.skip rfl (.skip rfl (EnvSub.refl _)))))))))))))))) rfl rfl rfl)
        case hf =>
          intro c4
          refine SXL.move rfl ?_
          refine SXL.gtr rfl rfl ?_
          refine SXL.move rfl ?_
          apply SXL.andG 10
          case hl => exact rfl
          case hd => exact rfl
          case hg => exact rfl
          case ht =>
            intro g14
            obtain ⟨b2, o2, ha2, hm2⟩ := hs.readI (i := (k : Int) - 1) (by omega) (by omega)
            refine SXL.fieldAddr fp_27_6 rfl ?_
            refine SXL.load1o 0 sh_25 rfl rfl rfl ?_
            refine SXL.move rfl ?_
            refine SXL.sub rfl rfl (by omega) ?_
            refine SXL.indexR el_25 rfl rfl ha2 (by omega) ?_
            refine SXL.fieldAddr fp_54_0 rfl ?_
            refine SXL.load1 sh_3 rfl ((hm2 _).sub (j := 0) (k := 1) rfl) ?_
            refine SXL.fieldAddr fp_54_0 rfl ?_
            refine SXL.load1o 1 sh_3 rfl rfl rfl ?_
            refine SXL.geq rfl rfl ?_
            exact SXL.nil (segQ.mk (.skip rfl (.skip rfl (.skip rfl (.skip rfl (.skip rfl (.skip rfl (.skip rfl (.skip rfl (.skip rfl (.skip rfl (.skip rfl (EnvSub.refl _)))))))))))) rfl rfl ⟨rfl, rfl⟩)
          case hf =>
            intro g14
            refine SXL.pass rfl rfl rfl ?_
            refine SXL.pass rfl rfl rfl ?_
            refine SXL.pass rfl rfl rfl ?_
            refine SXL.pass rfl rfl rfl ?_
            refine SXL.pass rfl rfl rfl ?_
            refine SXL.pass rfl rfl rfl ?_
            refine SXL.pass rfl rfl rfl ?_
            refine SXL.pass rfl rfl rfl ?_
            refine SXL.pass rfl rfl rfl ?_
            refine SXL.pass rfl rfl rfl ?_
            exact SXL.nil (segQ.mk (.skip rfl (.skip rfl (.skip rfl (.skip rfl (.skip rfl (.skip rfl (.skip rfl (.skip rfl (.skip rfl (.skip rfl (.skip rfl (EnvSub.refl _)))))))))))) rfl rfl rfl)
          exact SXL.nil (segQ.mk (.skip rfl (.skip rfl (.skip rfl (.skip rfl (EnvSub.refl _))))) rfl rfl ⟨rfl, rfl⟩)
        refine SXL.nil ⟨rfl, rfl, rfl, ?_⟩
        refine SXA.done (by kernel_rfl) ?_
        refine SXL.nil ?_
        refine thenQ.normal ?_
        refine SX.condP rfl (fun c4 => ?_) (fun c4 => ?_)
        · refine SX.seq ?_
          refine SX.region ?_
          refine SXL.assign rfl ?_
          refine SXL.nil ?_
          refine thenQ.normal ?_
          refine SX.ret ?_
          refine blockQ.ret ?_
          refine thenQ.ret ?_
          refine thenQ.ret ?_
          refine blockQ.ret ?_
          refine thenQ.ret ?_
          refine retQ.one (ResAt.tmp rfl) ?_
          exact congrArg Value.bool (decide_eq_false (by intro h; have h1 := h.2.2 k hk; have e : ((k : Int) - 1).toNat = k - 1 := (by omega); rw [e] at c4; omega)).symm
        · refine SX.skip ?_
          refine blockQ.normal ?_
          refine thenQ.normal ?_
          refine SX.region ?_
          refine SXL.add rfl rfl (by omega) ?_
          refine SXL.move rfl ?_
          refine SXL.nil ?_
          refine thenQ.normal ?_
          refine ⟨k + 1, Meets.mk _ ⟨rfl, trivial⟩ ⟨rfl, rfl, rfl, rfl, trivial⟩ rfl, ?_, by omega⟩
          refine ⟨by omega, fun i hi h => ?_⟩
          by_cases hik : i = k
          · subst hik
            have e : ((i : Int) - 1).toNat = i - 1 := by omega
            rw [e] at c4
            omega
          · exact hall2 i (by omega) h
      · refine SX.exit ?_
        refine thenQ.exit ?_
        refine thenQ.exit ?_
        refine blockQ.exit ?_
        refine thenQ.normal ?_
        refine SX.seq ?_
        refine SX.region ?_
        refine SXL.assign rfl ?_
        refine SXL.nil ?_
        refine thenQ.normal ?_
        refine SX.ret ?_
        refine retQ.one (ResAt.tmp rfl) ?_
        exact congrArg Value.bool (decide_eq_true (p := SpP s) ⟨by unfold HeadP; omega, fun i h => hall i (by omega) h, fun i h => hall2 i (by omega) h⟩).symm
end Go.Proofs.YtknflipongbngaaDoor

/- The walks of functions. -/
namespace Go.Proofs.YtknflipongbngaaDoor
open Go.X Go.S
theorem linesTo_yes {s : Sp} {L : List Int} (rain : Int) {i : Nat} (h : i < s.book.length) (hc : Wi rain s.book[i].r0 s.book[i].r1) :
    linesTo s L rain (i + 1) = ((linesTo s L rain i).set s.book[i].wk.toNat (max (G (linesTo s L rain i) s.book[i].wk.toNat) s.book[i].g0)).set (10 + s.book[i].wk.toNat) (min (G (linesTo s L rain i) (10 + s.book[i].wk.toNat)) s.book[i].g1) := by
  simp only [linesTo, List.getElem?_eq_getElem h, lineStep, if_pos hc]
theorem linesTo_no {s : Sp} {L : List Int} (rain : Int) {i : Nat} (h : i < s.book.length) (hc : ¬Wi rain s.book[i].r0 s.book[i].r1) : linesTo s L rain (i + 1) = linesTo s L rain i := by
  simp only [linesTo, List.getElem?_eq_getElem h, lineStep, if_neg hc]
theorem okTo_zero (s : Sp) (w : Nat) (n : Int) : OkTo s w n 0 := fun _ hi => absurd hi (Nat.not_lt_zero _)
theorem okTo_succ {s : Sp} {w : Nat} {n : Int} {i : Nat} (hlt : i < s.reads.length) : (OkTo s w n i ∧ (s.reads[i].wk ≠ w ∨ Right s s.reads[i] n)) ↔ OkTo s w n (i + 1) := by
  constructor
  · rintro ⟨h1, h2⟩ k hk h
    by_cases e : k = i
    · subst e; exact h2
    · exact h1 k (by omega) h
  · intro h
    exact ⟨fun k hk h' => h k (by omega) h', h i (by omega) hlt⟩
theorem okTo_all {s : Sp} {w : Nat} {n : Int} (h : OkTo s w n s.reads.length) : OkP s w n := fun i hi => h i hi hi
theorem okTo_not {s : Sp} {w : Nat} {n : Int} (h : ¬OkTo s w n s.reads.length) : ¬OkP s w n := fun g => h fun i _ hi => g i hi
theorem base_any (s : Sp) (bo ro : Option Addr) (bc rc : Nat) (hv : SpP s) (w : World) (hs : SpAt w s bo ro) :
    CallsR Tryd.prog 113 [.agg ⟨[.int .i64 s.weeks, .int .i64 s.most, .int .i64 s.fall, .int .i64 s.a0, .int .i64 s.a1, .int .i64 s.w0, .int .i64 s.w1, (.slice bo s.book.length bc), (.slice ro s.reads.length rc)]⟩] w (fun v _ => v = .agg ⟨ints (baseL s)⟩) := by
  have hH := hv.1
  unfold HeadP at hH
  refine CallsR.of_SX (n := 66) (rs := [.cell 2 156]) Tryd.func113 rfl rfl rfl rfl ?_
  show SX _ _ _ ⟨[(0, .agg ⟨[.int .i64 s.weeks, .int .i64 s.most, .int .i64 s.fall, .int .i64 s.a0, .int .i64 s.a1, .int .i64 s.w0, .int .i64 s.w1, (.slice bo s.book.length bc), (.slice ro s.reads.length rc)]⟩)], [], []⟩
  refine SX.seq ?_
  refine SX.region ?_
  refine SXL.box rfl rfl ?_; intro b0
  refine SXL.alloc zp_156 ?_; intro b1
  refine SXL.nil ?_
  refine thenQ.normal ?_
  refine SX.seq ?_
  refine SX.region ?_
  refine SXL.alloc zp_156 ?_; intro b2
  refine SXL.nil ?_
  refine thenQ.normal ?_
  refine SX.seq ?_
  refine SX.seq ?_
  refine SX.region ?_
  refine SXL.assign rfl ?_
  refine SXL.nil ?_
  refine thenQ.normal ?_
  refine SX.block ?_
  refine SX.loopG (α := Nat) [1, 2, 3] rfl (fun k => [(4, .int .i64 (k : Int))]) (fun k => [(2, (b2, .cells ⟨ints (baseTo s k)⟩ 156 (0, 0)))]) (fun k => k ≤ s.weeks.toNat) (fun k => s.weeks.toNat - k) 0 (Nat.zero_le _) ⟨rfl, trivial⟩ rfl ?_
  rintro k hk
  have hB := Bd.base (s := s) hH.2.1 k (by omega)
  refine SX.seq ?_
  refine SX.seq ?_
  refine SX.region ?_
  refine SXL.move rfl ?_
  refine SXL.fieldAddr fp_27_0 rfl ?_
  refine SXL.load1o 0 sh_3 rfl rfl rfl ?_
  refine SXL.lss rfl rfl ?_
  refine SXL.nil ?_
  refine thenQ.normal ?_
  refine SX.condP rfl (fun c12 => ?_) (fun c12 => ?_)
  · refine SX.skip ?_
    refine thenQ.normal ?_
    refine SX.seq ?_
    refine SX.block ?_
    refine SX.seq ?_
    refine SX.region ?_
    refine SXL.move rfl ?_
    refine SXL.move rfl ?_
    refine SXL.fieldAddr fp_27_1 rfl ?_
    refine SXL.load1o 0 sh_3 rfl rfl rfl ?_
    refine SXL.add rfl rfl (by omega) ?_
    refine SXL.fieldAddr fp_156_0 rfl ?_
    refine SXL.indexA el_154 rfl rfl (by omega) ?_
    refine SXL.store 2 sz_3 rfl rfl rfl rfl rfl (ints_put (i := k) (by omega) (by simp only [hB.len]; omega)) ?_
    refine SXL.fieldAddr fp_156_1 rfl ?_
    refine SXL.indexA el_154 rfl rfl (by omega) ?_
    refine SXL.store 2 sz_3 rfl rfl rfl rfl rfl (ints_put (i := 10 + k) (by omega) (by simp only [List.length_set, hB.len]; omega)) ?_
    refine SXL.nil ?_
    refine thenQ.normal ?_
    refine SX.seq ?_
    refine SX.region ?_
    refine SXL.assign rfl ?_
    refine SXL.nil ?_
    refine thenQ.normal ?_
    refine SX.block ?_
    refine SX.loopG (α := Nat) [1, 2, 3, 4] rfl (fun j => [(5, .int .i64 (j : Int))]) (fun j => [(2, (b2, .cells ⟨ints (weekTo s (baseTo s k) k j)⟩ 156 (0, 0)))]) (fun j => j ≤ s.most.toNat + 1) (fun j => s.most.toNat + 1 - j) 0 (Nat.zero_le _) ⟨rfl, trivial⟩ rfl ?_
    rintro j hj
    have hBj := Bd.week (s := s) hB hH.2.1 (w := k) (by omega) j (by omega)
    refine SX.seq ?_
    refine SX.seq ?_
    refine SX.region ?_
    refine SXL.move rfl ?_
    refine SXL.fieldAddr fp_27_1 rfl ?_
    refine SXL.load1o 0 sh_3 rfl rfl rfl ?_
    refine SXL.leq rfl rfl ?_
    refine SXL.nil ?_
    refine thenQ.normal ?_
    refine SX.condP rfl (fun c27 => ?_) (fun c27 => ?_)
    · refine SX.skip ?_
      refine thenQ.normal ?_
      refine SX.seq ?_
      refine SX.block ?_
      refine SX.seq ?_
      refine SX.region ?_
      refine SXL.assign rfl ?_
      refine SXL.nil ?_
      refine thenQ.normal ?_
      refine SX.seq ?_
      refine SX.seq ?_
      refine SX.region ?_
      refine SXL.fieldAddr fp_27_6 rfl ?_
      refine SXL.load1o 0 sh_25 rfl rfl rfl ?_
      refine SXL.len is_25 rfl ?_
      refine SXL.move rfl ?_
      refine SXL.nil ?_
      refine thenQ.normal ?_
      refine SX.block ?_
      refine SX.loopG (α := Nat) [1, 2, 3, 4, 5, 31, 32] rfl (fun i => [(33, .int .i64 (i : Int)), (6, .bool (decide (OkTo s k (j : Int) i)))]) (fun i => []) (fun i => i ≤ s.reads.length) (fun i => s.reads.length - i) 0 (Nat.zero_le _) ⟨rfl, (congrArg (fun b => some (Value.bool b)) (decide_eq_true (okTo_zero s k j)).symm), trivial⟩ rfl ?_
      rintro i hi
      refine SX.seq ?_
      refine SX.region ?_
      refine SXL.lss rfl rfl ?_
      refine SXL.nil ?_
      refine thenQ.normal ?_
      refine SX.seq ?_
      refine SX.condP rfl (fun c34 => ?_) (fun c34 => ?_)
      · refine SX.skip ?_
        refine thenQ.normal ?_
        refine SX.seq ?_
        refine SX.block ?_
        refine SX.seq ?_
        have hlt : i < s.reads.length := by omega
        obtain ⟨b, o, ha, hm⟩ := hs.read hlt
        have hR := (hv.2.2 i hlt).1
        refine SX.region ?_
        refine SXL.indexR el_25 rfl rfl ha (by omega) ?_
        refine SXL.loadN sh_54 rfl (hm _) rfl ?_
        refine SXL.alloc zp_54 ?_; intro b3
        refine SXL.store 3 sz_54 rfl rfl rfl rfl rfl rfl ?_
        refine SXL.nil ?_
        refine thenQ.normal ?_
        refine SX.region ?_
        refine SXL.move rfl ?_
        refine SXL.move rfl ?_
        apply SXL.andG 10
        case hl => exact rfl
        case hd => exact rfl
        case hg => exact rfl
        case ht =>
          intro g4
          refine SXL.fieldAddr fp_54_1 rfl ?_
          refine SXL.load1o 3 sh_3 rfl rfl rfl ?_
          refine SXL.move rfl ?_
          refine SXL.neqI rfl rfl ?_
          refine SXL.move rfl ?_
          apply SXL.orG 4
          case hl => exact rfl
          case hd => exact rfl
          case hg => exact rfl
          case ht =>
            intro g5
            refine SXL.pass rfl rfl rfl ?_
            refine SXL.pass rfl rfl rfl ?_
            refine SXL.pass rfl rfl rfl ?_
            refine SXL.pass rfl rfl rfl ?_
            exact SXL.nil (segQ.mk (.skip rfl (.skip rfl (.skip rfl (.skip rfl (.skip rfl (EnvSub.refl _)))))) rfl rfl rfl)
          case hf =>
            intro g5
            refine SXL.loadNo 0 sh_27 rfl rfl rfl ?_
            refine SXL.loadNo 3 sh_54 rfl rfl rfl ?_
            refine SXL.move rfl ?_
            refine SXL.call1 (.bool (decide (Right s s.reads[i] (j : Int)))) fn_82 rfl (fun w hI => right_any s bo ro bc rc _ _ (by omega) (by omega) (by omega) (by omega) _) ?_
            exact SXL.nil (segQ.mk (.skip rfl (.skip rfl (.skip rfl (.skip rfl (.skip rfl (EnvSub.refl _)))))) rfl rfl ⟨rfl, rfl⟩)
          exact SXL.nil (segQ.mk (.skip rfl (.skip rfl (.skip rfl (.skip rfl (.skip rfl (.skip rfl (EnvSub.refl _))))))) rfl rfl ⟨rfl, rfl⟩)
        case hf =>
          intro g4
          refine SXL.pass rfl rfl rfl ?_
          refine SXL.pass rfl rfl rfl ?_
          refine SXL.pass rfl rfl rfl ?_
          refine SXL.pass rfl rfl rfl ?_
          refine SXL.pass rfl rfl rfl ?_
          refine SXL.pass rfl rfl rfl ?_
          refine SXL.pass rfl rfl rfl ?_
          refine SXL.pass rfl rfl rfl ?_
          refine SXL.pass rfl rfl rfl ?_
          refine SXL.pass rfl rfl rfl ?_
          exact SXL.nil (segQ.mk (.skip rfl (.skip rfl (.skip rfl (.skip rfl (.skip rfl (.skip rfl (.skip rfl (.skip rfl (.skip rfl (.skip rfl (.skip rfl (EnvSub.refl _)))))))))))) rfl rfl rfl)
        refine SXL.assign rfl ?_
        refine SXL.nil ?_
        refine blockQ.normal ?_
        refine thenQ.normal ?_
        refine SX.region ?_
        refine SXL.add rfl rfl (by omega) ?_
        refine SXL.move rfl ?_
        refine SXL.nil ?_
        refine thenQ.normal ?_
        refine ⟨i + 1, Meets.mk _ ⟨rfl, (congrArg (fun b => some (Value.bool b)) (decide_eq_decide.2 (okTo_succ hlt))), trivial⟩ ⟨rfl, rfl, rfl, rfl, rfl, rfl, rfl, trivial⟩ rfl, (by omega), (by omega)⟩
      · refine SX.exit ?_
        refine thenQ.exit ?_
        refine thenQ.exit ?_
        refine blockQ.exit ?_
        refine thenQ.normal ?_
        refine SX.seq ?_
        obtain rfl : i = s.reads.length := by omega
        refine SX.region ?_
        refine SXL.move rfl ?_
        refine SXL.nil ?_
        refine thenQ.normal ?_
        refine SX.condP rfl (fun c51 => ?_) (fun c51 => ?_)
        · refine SX.region ?_
          refine SXL.move rfl ?_
          refine SXL.move rfl ?_
          refine SXL.move rfl ?_
          refine SXL.fieldAddr fp_156_0 rfl ?_
          refine SXL.indexA el_154 rfl rfl (by omega) ?_
          refine SXL.load1o 2 sh_3 rfl rfl (intsAtX (i := k) (by omega) (by simp only [hBj.len]; omega)) ?_
          refine SXL.move rfl ?_
          refine SXL.min rfl rfl ?_
          refine SXL.move rfl ?_
          refine SXL.fieldAddr fp_156_0 rfl ?_
          refine SXL.indexA el_154 rfl rfl (by omega) ?_
          refine SXL.store 2 sz_3 rfl rfl rfl rfl rfl (ints_put (i := k) (by omega) (by simp only [hBj.len]; omega)) ?_
          refine SXL.fieldAddr fp_156_1 rfl ?_
          refine SXL.indexA el_154 rfl rfl (by omega) ?_
          refine SXL.store 2 sz_3 rfl rfl rfl rfl rfl (ints_put (i := 10 + k) (by omega) (by simp only [List.length_set, hBj.len]; omega)) ?_
          refine SXL.nil ?_
          refine blockQ.normal ?_
          refine thenQ.normal ?_
          refine SX.region ?_
          refine SXL.move rfl ?_
          refine SXL.add rfl rfl (by omega) ?_
          refine SXL.assign rfl ?_
          refine SXL.nil ?_
          refine thenQ.normal ?_
          refine ⟨j + 1, Meets.mk _ ⟨rfl, trivial⟩ ⟨rfl, rfl, rfl, rfl, trivial⟩ (by first | (rw [show weekTo s (baseTo s k) k (j + 1) = _ from if_pos (okTo_all c51)]; rfl) | (rw [show weekTo s (baseTo s k) k (j + 1) = _ from if_neg (okTo_not c51)]; rfl)), (by omega), (by omega)⟩
        · refine SX.skip ?_
          refine blockQ.normal ?_
          refine thenQ.normal ?_
          refine SX.region ?_
          refine SXL.move rfl ?_
          refine SXL.add rfl rfl (by omega) ?_
          refine SXL.assign rfl ?_
          refine SXL.nil ?_
          refine thenQ.normal ?_
          refine ⟨j + 1, Meets.mk _ ⟨rfl, trivial⟩ ⟨rfl, rfl, rfl, rfl, trivial⟩ (by first | (rw [show weekTo s (baseTo s k) k (j + 1) = _ from if_pos (okTo_all c51)]; rfl) | (rw [show weekTo s (baseTo s k) k (j + 1) = _ from if_neg (okTo_not c51)]; rfl)), (by omega), (by omega)⟩
    · refine SX.exit ?_
      refine thenQ.exit ?_
      refine thenQ.exit ?_
      refine blockQ.exit ?_
      refine blockQ.normal ?_
      refine thenQ.normal ?_
      obtain rfl : j = s.most.toNat + 1 := by omega
      refine SX.region ?_
      refine SXL.move rfl ?_
      refine SXL.add rfl rfl (by omega) ?_
      refine SXL.assign rfl ?_
      refine SXL.nil ?_
      refine thenQ.normal ?_
      refine ⟨k + 1, Meets.mk _ ⟨rfl, trivial⟩ ⟨rfl, rfl, rfl, trivial⟩ rfl, (by omega), (by omega)⟩
  · refine SX.exit ?_
    refine thenQ.exit ?_
    refine thenQ.exit ?_
    refine blockQ.exit ?_
    refine thenQ.normal ?_
    refine SX.seq ?_
    refine SX.region ?_
    refine SXL.loadNo 2 sh_156 rfl rfl (takeAt_full (by simp only [length_ints, hB.len])) ?_
    refine SXL.store 1 sz_156 rfl rfl rfl rfl (by simp only [length_ints, hB.len]) (putAt_all _ _ (by simp only [length_ints, hB.len]; rfl)) ?_ (ints_isOne _)
    refine SXL.nil ?_
    refine thenQ.normal ?_
    refine SX.ret ?_
    refine retQ.one (ResAt.cellNo 1 sh_156 rfl rfl (takeAt_full (by simp only [length_ints, hB.len]))) ?_
    rw [show k = s.weeks.toNat by omega]; rfl
set_option maxHeartbeats 1000000 in
theorem leaves_any (s : Sp) (bo ro : Option Addr) (bc rc : Nat) (L : List Int) (hL : Bd L) (rain : Int) (hv : SpP s) (w : World) (hs : SpAt w s bo ro) :
    CallsR Tryd.prog 133 [.agg ⟨[.int .i64 s.weeks, .int .i64 s.most, .int .i64 s.fall, .int .i64 s.a0, .int .i64 s.a1, .int .i64 s.w0, .int .i64 s.w1, (.slice bo s.book.length bc), (.slice ro s.reads.length rc)]⟩, .agg ⟨ints L⟩, .int .i64 rain] w (fun v _ => v = .tuple ⟨[.agg ⟨ints (lvL s L rain)⟩, .bool (decide (lvB s L rain))]⟩) := by
  have hH := hv.1
  unfold HeadP at hH
  refine CallsR.of_SX (n := 143) (rs := [.cell 6 156, .tmp 7]) Tryd.func133 rfl rfl rfl rfl ?_
  show SX _ _ _ ⟨[(0, .agg ⟨[.int .i64 s.weeks, .int .i64 s.most, .int .i64 s.fall, .int .i64 s.a0, .int .i64 s.a1, .int .i64 s.w0, .int .i64 s.w1, (.slice bo s.book.length bc), (.slice ro s.reads.length rc)]⟩), (1, .agg ⟨ints L⟩), (2, .int .i64 rain)], [], []⟩
  refine SX.seq ?_
  refine SX.region ?_
  refine SXL.box rfl rfl ?_; intro b0
  refine SXL.box rfl rfl ?_; intro b1
  refine SXL.alloc zp_156 ?_; intro b2
  refine SXL.assign rfl ?_
  refine SXL.nil ?_
  refine thenQ.normal ?_
  refine SX.seq ?_
  refine SX.seq ?_
  refine SX.region ?_
  refine SXL.fieldAddr fp_27_5 rfl ?_
  refine SXL.load1o 0 sh_24 rfl rfl rfl ?_
  refine SXL.len is_24 rfl ?_
  refine SXL.move rfl ?_
  refine SXL.nil ?_
  refine thenQ.normal ?_
  refine SX.block ?_
  refine SX.loopG (α := Nat) [2, 3, 4, 6, 7, 14, 15] rfl (fun i => [(16, .int .i64 (i : Int))]) (fun i => [(1, (b1, .cells ⟨ints (linesTo s L rain i)⟩ 156 (0, 0)))]) (fun i => i ≤ s.book.length) (fun i => s.book.length - i) 0 (Nat.zero_le _) ⟨rfl, trivial⟩ rfl ?_
  rintro i hi
  have hM := hL.lines hv.2.1 hH.1 rain i
  refine SX.seq ?_
  refine SX.region ?_
  refine SXL.lss rfl rfl ?_
  refine SXL.nil ?_
  refine thenQ.normal ?_
  refine SX.seq ?_
  refine SX.condP rfl (fun c17 => ?_) (fun c17 => ?_)
  · refine SX.skip ?_
    refine thenQ.normal ?_
    refine SX.seq ?_
    refine SX.block ?_
    refine SX.seq ?_
    have hlt : i < s.book.length := by omega
    obtain ⟨b, o, ha, hm⟩ := hs.line hlt
    have hl := hv.2.1 i hlt
    refine SX.region ?_
    refine SXL.indexR el_24 rfl rfl ha (by omega) ?_
    refine SXL.loadN sh_61 rfl (hm _) rfl ?_
    refine SXL.alloc zp_61 ?_; intro b3
    refine SXL.store 3 sz_61 rfl rfl rfl rfl rfl rfl ?_
    refine SXL.nil ?_
    refine thenQ.normal ?_
    refine SX.seq ?_
    refine SX.region ?_
    refine SXL.move rfl ?_
    refine SXL.fieldAddr fp_61_0 rfl ?_
    refine SXL.fieldAddr fp_23_0 rfl ?_
    refine SXL.load1o 3 sh_3 rfl rfl rfl ?_
    refine SXL.fieldAddr fp_61_0 rfl ?_
    refine SXL.fieldAddr fp_23_1 rfl ?_
    refine SXL.load1o 3 sh_3 rfl rfl rfl ?_
    refine SXL.call1 (.bool (decide (Wi rain s.book[i].r0 s.book[i].r1))) fn_104 rfl (fun w hI => within_any _ _ _ _) ?_
    refine SXL.nil ?_
    refine thenQ.normal ?_
    refine SX.condP rfl (fun c27 => ?_) (fun c27 => ?_)
    · refine SX.draw 28 (by kernel_rfl) (by kernel_rfl) ⟨[2, 3, 13, 14, 18, 19, 20, 21, 22, 25, 26, 27], [true, false]⟩ ?_
      refine SXA.take 0 2 rfl (by kernel_rfl) rfl ?_
      refine SXL.fieldAddr fp_61_1 rfl ?_
      refine SXL.load1o 3 sh_3 rfl rfl rfl ?_
      refine SXL.nil ⟨rfl, rfl, rfl, ?_⟩
      refine SXA.takeM 2 2 rfl (by kernel_rfl) rfl ?_
      refine SXL.fieldAddr fp_61_1 rfl ?_
      refine SXL.load1o 2 sh_3 rfl rfl rfl ?_
      refine SXL.nil ⟨rfl, rfl, rfl, ?_⟩
      refine SXA.take 4 9 rfl (by kernel_rfl) rfl ?_
      refine SXL.fieldAddr fp_61_1 rfl ?_
      refine SXL.load1o 3 sh_3 rfl rfl rfl ?_
      refine SXL.fieldAddr fp_156_0 rfl ?_
      refine SXL.indexA el_154 rfl rfl (by omega) ?_
      refine SXL.load1o 1 sh_3 rfl rfl (intsAtX (i := s.book[i].wk.toNat) (by omega) (by simp only [hM.len]; omega)) ?_
      refine SXL.fieldAddr fp_61_2 rfl ?_
      refine SXL.fieldAddr fp_23_0 rfl ?_
      refine SXL.load1o 3 sh_3 rfl rfl rfl ?_
      refine SXL.max rfl rfl ?_
      refine SXL.nil ⟨rfl, rfl, rfl, ?_⟩
      refine SXA.takeM 13 2 rfl (by kernel_rfl) rfl ?_
      refine SXL.fieldAddr fp_61_1 rfl ?_
      refine SXL.load1o 2 sh_3 rfl rfl rfl ?_
      refine SXL.nil ⟨rfl, rfl, rfl, ?_⟩
      refine SXA.take 15 3 rfl (by kernel_rfl) rfl ?_
      refine SXL.fieldAddr fp_156_1 rfl ?_
      refine SXL.indexA el_154 rfl rfl (by omega) ?_
      refine SXL.load1o 1 sh_3 rfl rfl (intsAtX (i := 10 + s.book[i].wk.toNat) (by omega) (by simp only [hM.len]; omega)) ?_
      refine SXL.nil ⟨rfl, rfl, rfl, ?_⟩
      refine SXA.takeM 18 5 rfl (by kernel_rfl) rfl ?_
      refine SXL.fieldAddr fp_61_2 rfl ?_
      refine SXL.fieldAddr fp_23_1 rfl ?_
      refine SXL.load1o 2 sh_3 rfl rfl rfl ?_
      refine SXL.min rfl rfl ?_
      refine SXL.fieldAddr fp_156_0 rfl ?_
      refine SXL.nil ⟨rfl, rfl, rfl, ?_⟩
      refine SXA.take 23 1 rfl (by kernel_rfl) rfl ?_
      refine SXL.indexA el_154 rfl rfl (by omega) ?_
      refine SXL.nil ⟨rfl, rfl, rfl, ?_⟩
      refine SXA.takeM 25 1 rfl (by kernel_rfl) rfl ?_
      refine SXL.fieldAddr fp_156_1 rfl ?_
      refine SXL.nil ⟨rfl, rfl, rfl, ?_⟩
      refine SXA.all [24] (by kernel_rfl) rfl ⟨⟨?_, rfl⟩, trivial⟩
      refine (show SXL _ _ [_] _ _ from ?_)
      refine SXL.store 1 sz_3 rfl rfl rfl rfl rfl (ints_put (i := s.book[i].wk.toNat) (by omega) (by simp only [hM.len]; omega)) ?_
      refine SXL.nil (stepQ.mkL _ (by kernel_rfl) rfl rfl ?_)
      refine SXA.takeM 26 1 rfl (by kernel_rfl) rfl ?_
      refine SXL.indexA el_154 rfl rfl (by omega) ?_
      refine SXL.nil ⟨rfl, rfl, rfl, ?_⟩
      refine SXA.all [27] (by kernel_rfl) rfl ⟨⟨?_, rfl⟩, trivial⟩
      refine (show SXL _ _ [_] _ _ from ?_)
      refine SXL.store 1 sz_3 rfl rfl rfl rfl rfl (ints_put (i := 10 + s.book[i].wk.toNat) (by omega) (by simp only [List.length_set, hM.len]; omega)) ?_
      refine SXL.nil (stepQ.mkL _ (by kernel_rfl) rfl rfl ?_)
      refine SXA.done (by kernel_rfl) ?_
      refine SXL.nil ?_
      refine blockQ.normal ?_
      refine thenQ.normal ?_
      refine SX.region ?_
      refine SXL.add rfl rfl (by omega) ?_
      refine SXL.move rfl ?_
      refine SXL.nil ?_
      refine thenQ.normal ?_
      refine ⟨i + 1, Meets.mk _ ⟨rfl, trivial⟩ ⟨rfl, rfl, rfl, rfl, rfl, rfl, rfl, trivial⟩ (by first | (rw [linesTo_yes rain hlt c27]; rfl) | (rw [linesTo_no rain hlt c27]; rfl)), (by omega), (by omega)⟩
    · refine SX.skip ?_
      refine blockQ.normal ?_
      refine thenQ.normal ?_
      refine SX.region ?_
      refine SXL.add rfl rfl (by omega) ?_
      refine SXL.move rfl ?_
      refine SXL.nil ?_
      refine thenQ.normal ?_
      refine ⟨i + 1, Meets.mk _ ⟨rfl, trivial⟩ ⟨rfl, rfl, rfl, rfl, rfl, rfl, rfl, trivial⟩ (by first | (rw [linesTo_yes rain hlt c27]; rfl) | (rw [linesTo_no rain hlt c27]; rfl)), (by omega), (by omega)⟩
  · refine SX.exit ?_
    refine thenQ.exit ?_
    refine thenQ.exit ?_
    refine blockQ.exit ?_
    refine thenQ.normal ?_
    refine SX.seq ?_
    refine SX.seq ?_
    obtain rfl : i = s.book.length := by omega
    refine SX.region ?_
    refine SXL.assign rfl ?_
    refine SXL.nil ?_
    refine thenQ.normal ?_
    refine SX.block ?_
    refine SX.loopG (α := Nat) [3, 4, 6, 7] rfl (fun j => [(10, .int .i64 ((j : Int) + 1))]) (fun j => [(1, (b1, .cells ⟨ints (fwdTo s.fall (linesTo s L rain s.book.length) j)⟩ 156 (0, 0)))]) (fun j => j ≤ s.weeks.toNat - 1) (fun j => s.weeks.toNat - 1 - j) 0 (Nat.zero_le _) ⟨rfl, trivial⟩ rfl ?_
    rintro j hj
    have hF := hM.fwd hH.2.2.1 j (by omega)
    have g1 := hF.2 j (by omega)
    refine SX.seq ?_
    refine SX.seq ?_
    refine SX.region ?_
    refine SXL.move rfl ?_
    refine SXL.fieldAddr fp_27_0 rfl ?_
    refine SXL.load1o 0 sh_3 rfl rfl rfl ?_
    refine SXL.lss rfl rfl ?_
    refine SXL.nil ?_
    refine thenQ.normal ?_
    refine SX.condP rfl (fun c58 => ?_) (fun c58 => ?_)
    · refine SX.skip ?_
      refine thenQ.normal ?_
      refine SX.seq ?_
      refine SX.block ?_
      have g2 := hF.2 (j + 1) (by omega)
      have g3 := hF.2 (10 + j) (by omega)
      have g4 := hF.2 (10 + (j + 1)) (by omega)
      refine SX.draw 31 (by kernel_rfl) (by kernel_rfl) ⟨[1, 15, 19, 20, 24, 25, 28, 29, 30], [true, false]⟩ ?_
      refine SXA.take 0 1 rfl (by kernel_rfl) rfl ?_
      refine SXL.move rfl ?_
      refine SXL.nil ⟨rfl, rfl, rfl, ?_⟩
      refine SXA.takeM 1 1 rfl (by kernel_rfl) rfl ?_
      refine SXL.move rfl ?_
      refine SXL.nil ⟨rfl, rfl, rfl, ?_⟩
      refine SXA.take 2 13 rfl (by kernel_rfl) rfl ?_
      refine SXL.move rfl ?_
      refine SXL.fieldAddr fp_156_0 rfl ?_
      refine SXL.indexA el_154 rfl rfl (by omega) ?_
      refine SXL.load1o 1 sh_3 rfl rfl (intsAtX (i := j + 1) (by omega) (by simp only [hF.len]; omega)) ?_
      refine SXL.move rfl ?_
      refine SXL.sub rfl rfl (by omega) ?_
      refine SXL.fieldAddr fp_156_0 rfl ?_
      refine SXL.indexA el_154 rfl rfl (by omega) ?_
      refine SXL.load1o 1 sh_3 rfl rfl (intsAtX (i := j) (by omega) (by simp only [hF.len]; omega)) ?_
      refine SXL.fieldAddr fp_27_2 rfl ?_
      refine SXL.load1o 0 sh_3 rfl rfl rfl ?_
      refine SXL.sub rfl rfl (by omega) ?_
      refine SXL.max rfl rfl ?_
      refine SXL.nil ⟨rfl, rfl, rfl, ?_⟩
      refine SXA.takeM 15 1 rfl (by kernel_rfl) rfl ?_
      refine SXL.move rfl ?_
      refine SXL.nil ⟨rfl, rfl, rfl, ?_⟩
      refine SXA.take 16 3 rfl (by kernel_rfl) rfl ?_
      refine SXL.fieldAddr fp_156_1 rfl ?_
      refine SXL.indexA el_154 rfl rfl (by omega) ?_
      refine SXL.load1o 1 sh_3 rfl rfl (intsAtX (i := 10 + (j + 1)) (by omega) (by simp only [hF.len]; omega)) ?_
      refine SXL.nil ⟨rfl, rfl, rfl, ?_⟩
      refine SXA.takeM 19 2 rfl (by kernel_rfl) rfl ?_
      refine SXL.move rfl ?_
      refine SXL.sub rfl rfl (by omega) ?_
      refine SXL.nil ⟨rfl, rfl, rfl, ?_⟩
      refine SXA.take 21 3 rfl (by kernel_rfl) rfl ?_
      refine SXL.fieldAddr fp_156_1 rfl ?_
      refine SXL.indexA el_154 rfl rfl (by omega) ?_
      refine SXL.load1o 1 sh_3 rfl rfl (intsAtX (i := 10 + j) (by omega) (by simp only [hF.len]; omega)) ?_
      refine SXL.nil ⟨rfl, rfl, rfl, ?_⟩
      refine SXA.takeM 24 2 rfl (by kernel_rfl) rfl ?_
      refine SXL.min rfl rfl ?_
      refine SXL.fieldAddr fp_156_0 rfl ?_
      refine SXL.nil ⟨rfl, rfl, rfl, ?_⟩
      refine SXA.take 26 1 rfl (by kernel_rfl) rfl ?_
      refine SXL.indexA el_154 rfl rfl (by omega) ?_
      refine SXL.nil ⟨rfl, rfl, rfl, ?_⟩
      refine SXA.takeM 28 1 rfl (by kernel_rfl) rfl ?_
      refine SXL.fieldAddr fp_156_1 rfl ?_
      refine SXL.nil ⟨rfl, rfl, rfl, ?_⟩
      refine SXA.all [27] (by kernel_rfl) rfl ⟨⟨?_, rfl⟩, trivial⟩
      refine (show SXL _ _ [_] _ _ from ?_)
      refine SXL.store 1 sz_3 rfl rfl rfl rfl rfl (ints_put (i := j + 1) (by omega) (by simp only [hF.len]; omega)) ?_
      refine SXL.nil (stepQ.mkL _ (by kernel_rfl) rfl rfl ?_)
      refine SXA.takeM 29 1 rfl (by kernel_rfl) rfl ?_
      refine SXL.indexA el_154 rfl rfl (by omega) ?_
      refine SXL.nil ⟨rfl, rfl, rfl, ?_⟩
      refine SXA.all [30] (by kernel_rfl) rfl ⟨⟨?_, rfl⟩, trivial⟩
      refine (show SXL _ _ [_] _ _ from ?_)
      refine SXL.store 1 sz_3 rfl rfl rfl rfl rfl (ints_put (i := 10 + (j + 1)) (by omega) (by simp only [List.length_set, hF.len]; omega)) ?_
      refine SXL.nil (stepQ.mkL _ (by kernel_rfl) rfl rfl ?_)
      refine SXA.done (by kernel_rfl) ?_
      refine SXL.nil ?_
      refine blockQ.normal ?_
      refine thenQ.normal ?_
      refine SX.region ?_
      refine SXL.move rfl ?_
      refine SXL.add rfl rfl (by omega) ?_
      refine SXL.assign rfl ?_
      refine SXL.nil ?_
      refine thenQ.normal ?_
      refine ⟨j + 1, Meets.mk _ ⟨rfl, trivial⟩ ⟨rfl, rfl, rfl, rfl, trivial⟩ rfl, (by omega), (by omega)⟩
    · refine SX.exit ?_
      refine thenQ.exit ?_
      refine thenQ.exit ?_
      refine blockQ.exit ?_
      refine thenQ.normal ?_
      refine SX.seq ?_
      refine SX.seq ?_
      obtain rfl : j = s.weeks.toNat - 1 := by omega
      refine SX.region ?_
      refine SXL.fieldAddr fp_27_0 rfl ?_
      refine SXL.load1o 0 sh_3 rfl rfl rfl ?_
      refine SXL.sub rfl rfl (by omega) ?_
      refine SXL.assign rfl ?_
      refine SXL.nil ?_
      refine thenQ.normal ?_
      refine SX.block ?_
      refine SX.loopG (α := Nat) [3, 4, 6, 7] rfl (fun j => [(11, .int .i64 (s.weeks - 2 - (j : Int)))]) (fun j => [(1, (b1, .cells ⟨ints (bwdTo s.fall (s.weeks.toNat - 1) (fwdTo s.fall (linesTo s L rain s.book.length) (s.weeks.toNat - 1)) j)⟩ 156 (0, 0)))]) (fun j => j ≤ s.weeks.toNat - 1) (fun j => s.weeks.toNat - 1 - j) 0 (Nat.zero_le _) ⟨congrArg (fun z => some (Value.int .i64 z)) (show s.weeks - 2 = s.weeks - 2 - ((0 : Nat) : Int) by omega), trivial⟩ rfl ?_
      rintro j hj
      have hW := hF.bwd (n := s.weeks.toNat - 1) hH.2.2.1 (by omega) j (by omega)
      refine SX.seq ?_
      refine SX.seq ?_
      refine SX.region ?_
      refine SXL.move rfl ?_
      refine SXL.geq rfl rfl ?_
      refine SXL.nil ?_
      refine thenQ.normal ?_
      refine SX.condP rfl (fun c94 => ?_) (fun c94 => ?_)
      · refine SX.skip ?_
        refine thenQ.normal ?_
        refine SX.seq ?_
        refine SX.block ?_
        have hw8 : s.weeks.toNat - 1 - 1 - j ≤ 8 := by omega
        have g1 := hW.2 (s.weeks.toNat - 1 - 1 - j) (by omega)
        have g2 := hW.2 (s.weeks.toNat - 1 - 1 - j + 1) (by omega)
        have g3 := hW.2 (10 + (s.weeks.toNat - 1 - 1 - j)) (by omega)
        have g4 := hW.2 (10 + (s.weeks.toNat - 1 - 1 - j + 1)) (by omega)
        refine SX.draw 31 (by kernel_rfl) (by kernel_rfl) ⟨[1, 12, 16, 17, 21, 22, 23, 24, 25, 28, 29, 30], [true, false]⟩ ?_
        refine SXA.take 0 1 rfl (by kernel_rfl) rfl ?_
        refine SXL.move rfl ?_
        refine SXL.nil ⟨rfl, rfl, rfl, ?_⟩
        refine SXA.takeM 1 1 rfl (by kernel_rfl) rfl ?_
        refine SXL.move rfl ?_
        refine SXL.nil ⟨rfl, rfl, rfl, ?_⟩
        refine SXA.take 2 10 rfl (by kernel_rfl) rfl ?_
        refine SXL.move rfl ?_
        refine SXL.fieldAddr fp_156_0 rfl ?_
        refine SXL.indexA el_154 rfl rfl (by omega) ?_
        refine SXL.load1o 1 sh_3 rfl rfl (intsAtX (i := s.weeks.toNat - 1 - 1 - j) (by omega) (by simp only [hW.len]; omega)) ?_
        refine SXL.move rfl ?_
        refine SXL.add rfl rfl (by omega) ?_
        refine SXL.fieldAddr fp_156_0 rfl ?_
        refine SXL.indexA el_154 rfl rfl (by omega) ?_
        refine SXL.load1o 1 sh_3 rfl rfl (intsAtX (i := s.weeks.toNat - 1 - 1 - j + 1) (by omega) (by simp only [hW.len]; omega)) ?_
        refine SXL.max rfl rfl ?_
        refine SXL.nil ⟨rfl, rfl, rfl, ?_⟩
        refine SXA.takeM 12 1 rfl (by kernel_rfl) rfl ?_
        refine SXL.move rfl ?_
        refine SXL.nil ⟨rfl, rfl, rfl, ?_⟩
        refine SXA.take 13 3 rfl (by kernel_rfl) rfl ?_
        refine SXL.fieldAddr fp_156_1 rfl ?_
        refine SXL.indexA el_154 rfl rfl (by omega) ?_
        refine SXL.load1o 1 sh_3 rfl rfl (intsAtX (i := 10 + (s.weeks.toNat - 1 - 1 - j)) (by omega) (by simp only [hW.len]; omega)) ?_
        refine SXL.nil ⟨rfl, rfl, rfl, ?_⟩
        refine SXA.takeM 16 2 rfl (by kernel_rfl) rfl ?_
        refine SXL.move rfl ?_
        refine SXL.add rfl rfl (by omega) ?_
        refine SXL.nil ⟨rfl, rfl, rfl, ?_⟩
        refine SXA.take 18 3 rfl (by kernel_rfl) rfl ?_
        refine SXL.fieldAddr fp_156_1 rfl ?_
        refine SXL.indexA el_154 rfl rfl (by omega) ?_
        refine SXL.load1o 1 sh_3 rfl rfl (intsAtX (i := 10 + (s.weeks.toNat - 1 - 1 - j + 1)) (by omega) (by simp only [hW.len]; omega)) ?_
        refine SXL.nil ⟨rfl, rfl, rfl, ?_⟩
        refine SXA.takeM 21 5 rfl (by kernel_rfl) rfl ?_
        refine SXL.fieldAddr fp_27_2 rfl ?_
        refine SXL.load1o 0 sh_3 rfl rfl rfl ?_
        refine SXL.add rfl rfl (by omega) ?_
        refine SXL.min rfl rfl ?_
        refine SXL.fieldAddr fp_156_0 rfl ?_
        refine SXL.nil ⟨rfl, rfl, rfl, ?_⟩
        refine SXA.take 26 1 rfl (by kernel_rfl) rfl ?_
        refine SXL.indexA el_154 rfl rfl (by omega) ?_
        refine SXL.nil ⟨rfl, rfl, rfl, ?_⟩
        refine SXA.takeM 28 1 rfl (by kernel_rfl) rfl ?_
        refine SXL.fieldAddr fp_156_1 rfl ?_
        refine SXL.nil ⟨rfl, rfl, rfl, ?_⟩
        refine SXA.all [27] (by kernel_rfl) rfl ⟨⟨?_, rfl⟩, trivial⟩
        refine (show SXL _ _ [_] _ _ from ?_)
        refine SXL.store 1 sz_3 rfl rfl rfl rfl rfl (ints_put (i := s.weeks.toNat - 1 - 1 - j) (by omega) (by simp only [hW.len]; omega)) ?_
        refine SXL.nil (stepQ.mkL _ (by kernel_rfl) rfl rfl ?_)
        refine SXA.takeM 29 1 rfl (by kernel_rfl) rfl ?_
        refine SXL.indexA el_154 rfl rfl (by omega) ?_
        refine SXL.nil ⟨rfl, rfl, rfl, ?_⟩
        refine SXA.all [30] (by kernel_rfl) rfl ⟨⟨?_, rfl⟩, trivial⟩
        refine (show SXL _ _ [_] _ _ from ?_)
        refine SXL.store 1 sz_3 rfl rfl rfl rfl rfl (ints_put (i := 10 + (s.weeks.toNat - 1 - 1 - j)) (by omega) (by simp only [List.length_set, hW.len]; omega)) ?_
        refine SXL.nil (stepQ.mkL _ (by kernel_rfl) rfl rfl ?_)
        refine SXA.done (by kernel_rfl) ?_
        refine SXL.nil ?_
        refine blockQ.normal ?_
        refine thenQ.normal ?_
        refine SX.region ?_
        refine SXL.move rfl ?_
        refine SXL.sub rfl rfl (by omega) ?_
        refine SXL.assign rfl ?_
        refine SXL.nil ?_
        refine thenQ.normal ?_
        refine ⟨j + 1, Meets.mk _ ⟨congrArg (fun z => some (Value.int .i64 z)) (show s.weeks - 2 - (j : Int) - 1 = s.weeks - 2 - ((j + 1 : Nat) : Int) by omega), trivial⟩ ⟨rfl, rfl, rfl, rfl, trivial⟩ rfl, (by omega), (by omega)⟩
      · refine SX.exit ?_
        refine thenQ.exit ?_
        refine thenQ.exit ?_
        refine blockQ.exit ?_
        refine thenQ.normal ?_
        refine SX.seq ?_
        refine SX.seq ?_
        obtain rfl : j = s.weeks.toNat - 1 := by omega
        refine SX.region ?_
        refine SXL.assign rfl ?_
        refine SXL.nil ?_
        refine thenQ.normal ?_
        refine SX.block ?_
        refine SX.loopG (α := Nat) [3, 4, 6, 7] rfl (fun i => [(12, .int .i64 (i : Int))]) (fun i => []) (fun i => i ≤ s.weeks.toNat ∧ ∀ w, w < i → G (lvL s L rain) w ≤ G (lvL s L rain) (10 + w)) (fun i => s.weeks.toNat - i) 0 ⟨Nat.zero_le _, fun _ h => absurd h (Nat.not_lt_zero _)⟩ ⟨rfl, trivial⟩ rfl ?_
        rintro i ⟨hi2, hall⟩
        refine SX.seq ?_
        refine SX.seq ?_
        refine SX.region ?_
        refine SXL.move rfl ?_
        refine SXL.fieldAddr fp_27_0 rfl ?_
        refine SXL.load1o 0 sh_3 rfl rfl rfl ?_
        refine SXL.lss rfl rfl ?_
        refine SXL.nil ?_
        refine thenQ.normal ?_
        refine SX.condP rfl (fun c129 => ?_) (fun c129 => ?_)
        · refine SX.skip ?_
          refine thenQ.normal ?_
          refine SX.seq ?_
          refine SX.block ?_
          refine SX.seq ?_
          refine SX.draw 9 (by kernel_rfl) (by kernel_rfl) {} ?_
          refine SXA.take 0 9 rfl (by kernel_rfl) rfl ?_
          refine SXL.move rfl ?_
          refine SXL.fieldAddr fp_156_0 rfl ?_
          refine SXL.indexA el_154 rfl rfl (by omega) ?_
          refine SXL.load1o 1 sh_3 rfl rfl (intsAtX (i := i) (by omega) (by simp only [hW.len]; omega)) ?_
          refine SXL.move rfl ?_
          refine SXL.fieldAddr fp_156_1 rfl ?_
          refine SXL.indexA el_154 rfl rfl (by omega) ?_
          refine SXL.load1o 1 sh_3 rfl rfl (intsAtX (i := 10 + i) (by omega) (by simp only [hW.len]; omega)) ?_
          refine SXL.gtr rfl rfl ?_
          refine SXL.nil ⟨rfl, rfl, rfl, ?_⟩
          refine SXA.done (by kernel_rfl) ?_
          refine SXL.nil ?_
          refine thenQ.normal ?_
          refine SX.condP rfl (fun c140 => ?_) (fun c140 => ?_)
          · refine SX.seq ?_
            refine SX.region ?_
            refine SXL.loadNo 1 sh_156 rfl rfl (takeAt_full (by simp only [length_ints, hW.len])) ?_
            refine SXL.store 2 sz_156 rfl rfl rfl rfl (by simp only [length_ints, hW.len]) (putAt_all _ _ (by simp only [length_ints, hW.len]; rfl)) ?_ (ints_isOne _)
            refine SXL.assign rfl ?_
            refine SXL.nil ?_
            refine thenQ.normal ?_
            refine SX.ret ?_
            refine blockQ.ret ?_
            refine thenQ.ret ?_
            refine thenQ.ret ?_
            refine blockQ.ret ?_
            refine thenQ.ret ?_
            refine retQ.two (ResAt.cellNo 2 sh_156 rfl rfl (takeAt_full (by simp only [length_ints, hW.len]))) (ResAt.tmp rfl) ?_
            rw [decide_eq_false (p := lvB s L rain) (fun h => absurd (h i (by omega)) (Int.not_le.2 c140))]; rfl
          · refine SX.skip ?_
            refine blockQ.normal ?_
            refine thenQ.normal ?_
            refine SX.region ?_
            refine SXL.move rfl ?_
            refine SXL.add rfl rfl (by omega) ?_
            refine SXL.assign rfl ?_
            refine SXL.nil ?_
            refine thenQ.normal ?_
            refine ⟨i + 1, Meets.mk _ ⟨rfl, trivial⟩ ⟨rfl, rfl, rfl, rfl, trivial⟩ rfl, ?_, (by omega)⟩
            refine ⟨by omega, fun w hw => ?_⟩
            by_cases e : w = i
            · subst e; exact Int.not_lt.1 c140
            · exact hall w (by omega)
        · refine SX.exit ?_
          refine thenQ.exit ?_
          refine thenQ.exit ?_
          refine blockQ.exit ?_
          refine thenQ.normal ?_
          refine SX.seq ?_
          refine SX.region ?_
          refine SXL.loadNo 1 sh_156 rfl rfl (takeAt_full (by simp only [length_ints, hW.len])) ?_
          refine SXL.store 2 sz_156 rfl rfl rfl rfl (by simp only [length_ints, hW.len]) (putAt_all _ _ (by simp only [length_ints, hW.len]; rfl)) ?_ (ints_isOne _)
          refine SXL.assign rfl ?_
          refine SXL.nil ?_
          refine thenQ.normal ?_
          refine SX.ret ?_
          refine retQ.two (ResAt.cellNo 2 sh_156 rfl rfl (takeAt_full (by simp only [length_ints, hW.len]))) (ResAt.tmp rfl) ?_
          rw [decide_eq_true (p := lvB s L rain) (fun w hw => hall w (by omega))]; rfl
end Go.Proofs.YtknflipongbngaaDoor

/- The walks of functions. -/
namespace Go.Proofs.YtknflipongbngaaDoor
open Go.X Go.S
theorem rained_any (s : Sp) (bo ro : Option Addr) (bc rc : Nat) (L : List Int) (hL : Bd L) (hv : SpP s) (w : World) (hs : SpAt w s bo ro) :
    CallsR Tryd.prog 129 [.agg ⟨[.int .i64 s.weeks, .int .i64 s.most, .int .i64 s.fall, .int .i64 s.a0, .int .i64 s.a1, .int .i64 s.w0, .int .i64 s.w1, (.slice bo s.book.length bc), (.slice ro s.reads.length rc)]⟩, .agg ⟨ints L⟩] w (RnR (rnsL s L) (lvsL s L (rnsL s L))) := by
  have hH := hv.1
  unfold HeadP at hH
  refine CallsR.of_SX (n := 39) (rs := [.tmp 4, .tmp 5]) Tryd.func129 rfl rfl rfl rfl ?_
  show SX _ _ _ ⟨[(0, .agg ⟨[.int .i64 s.weeks, .int .i64 s.most, .int .i64 s.fall, .int .i64 s.a0, .int .i64 s.a1, .int .i64 s.w0, .int .i64 s.w1, (.slice bo s.book.length bc), (.slice ro s.reads.length rc)]⟩), (1, .agg ⟨ints L⟩)], [], []⟩
  refine SX.seq ?_
  refine SX.region ?_
  refine SXL.box rfl rfl ?_; intro b0
  refine SXL.box rfl rfl ?_; intro b1
  refine SXL.assign rfl ?_
  refine SXL.assign rfl ?_
  refine SXL.nil ?_
  refine thenQ.normal ?_
  refine SX.seq ?_
  refine SX.region ?_
  refine SXL.assign rfl ?_
  refine SXL.nil ?_
  refine thenQ.normal ?_
  refine SX.seq ?_
  refine SX.region ?_
  refine SXL.assign rfl ?_
  refine SXL.nil ?_
  refine thenQ.normal ?_
  refine SX.seq ?_
  refine SX.seq ?_
  refine SX.pad (Sl.nil.ent 3 []) rfl ?_
  refine SX.pad (Sl.nil.ent 156 []) rfl ?_
  refine SX.region ?_
  refine SXL.fieldAddr fp_27_4 rfl ?_
  refine SXL.fieldAddr fp_23_0 rfl ?_
  refine SXL.load1o 0 sh_3 rfl rfl rfl ?_
  refine SXL.assign rfl ?_
  refine SXL.nil ?_
  refine thenQ.normal ?_
  refine SX.block ?_
  refine SX.loopG (α := Nat × Sl × Sl × Nat × Nat × List Value × List Value) [2, 3, 4, 5] rfl (fun ⟨k, r1, r2, n1, n2, c1, c2⟩ => [(8, .int .i64 (s.w0 + (k : Int))), (6, r1.val n1), (7, r2.val n2)]) (fun ⟨k, r1, r2, n1, n2, c1, c2⟩ => [(2, r1.ent 3 c1), (3, r2.ent 156 c2)]) (fun ⟨k, r1, r2, n1, n2, c1, c2⟩ => k ≤ rnN s ∧ r1.Ok n1 1 c1 ∧ c1 = ints (rnsTo s L k) ∧ r2.Ok n2 20 c2 ∧ c2 = (rowsI (lvsL s L (rnsTo s L k))).flatten ∧ n2 = n1) (fun ⟨k, r1, r2, n1, n2, c1, c2⟩ => rnN s - k) (0, Sl.nil, Sl.nil, 0, 0, [], []) ⟨Nat.zero_le _, .none _, rfl, .none _, rfl, rfl⟩ ⟨congrArg (fun z => some (Value.int .i64 z)) (show s.w0 = s.w0 + ((0 : Nat) : Int) by omega), rfl, rfl, trivial⟩ rfl ?_
  rintro ⟨k, r1, r2, n1, n2, c1, c2⟩ ⟨hk, ho1, rfl, ho2, rfl, rfl⟩
  have hlen := rnsTo_len s L k
  have hn1 := Ok.n ho1
  have hN : rnN s = (s.w1 + 1 - s.w0).toNat := rfl
  have hLv := Bd.lv hL hv (s.w0 + (k : Int))
  refine SX.seq ?_
  refine SX.seq ?_
  refine SX.region ?_
  refine SXL.move rfl ?_
  refine SXL.fieldAddr fp_27_4 rfl ?_
  refine SXL.fieldAddr fp_23_1 rfl ?_
  refine SXL.load1o 0 sh_3 rfl rfl rfl ?_
  refine SXL.leq rfl rfl ?_
  refine SXL.nil ?_
  refine thenQ.normal ?_
  refine SX.condP rfl (fun c18 => ?_) (fun c18 => ?_)
  · refine SX.skip ?_
    refine thenQ.normal ?_
    refine SX.seq ?_
    refine SX.block ?_
    refine SX.seq ?_
    refine SX.region ?_
    refine SXL.loadNo 0 sh_27 rfl rfl rfl ?_
    refine SXL.loadNo 1 sh_156 rfl rfl (takeAt_full (by simp only [length_ints, hL.len])) ?_
    refine SXL.move rfl ?_
    refine SXL.call1 (.tuple ⟨[.agg ⟨ints (lvL s L (s.w0 + (k : Int)))⟩, .bool (decide (lvB s L (s.w0 + (k : Int))))]⟩) fn_133 rfl (fun w hI => leaves_any s bo ro _ _ L hL _ hv _ (hs.inv hI)) ?_
    refine SXL.move rfl ?_
    refine SXL.extract rfl rfl ?_
    refine SXL.extract rfl rfl ?_
    refine SXL.alloc zp_156 ?_; intro b4
    refine SXL.store 4 sz_156 rfl rfl rfl rfl (by simp only [length_ints, hLv.len]) (putAt_all _ _ (by simp only [length_ints, hLv.len]; rfl)) ?_ (ints_isOne _)
    refine SXL.assign rfl ?_
    refine SXL.nil ?_
    refine thenQ.normal ?_
    refine SX.seq ?_
    refine SX.region ?_
    refine SXL.move rfl ?_
    refine SXL.nil ?_
    refine thenQ.normal ?_
    refine SX.condP rfl (fun c28 => ?_) (fun c28 => ?_)
    · refine SX.draw 10 (by kernel_rfl) (by kernel_rfl) ⟨[0, 1, 2, 4, 5, 6, 7, 8, 9], [true, true, false, false]⟩ ?_
      refine SXA.takeM 0 2 rfl (by kernel_rfl) rfl ?_
      refine SXL.move rfl ?_
      refine SXL.move rfl ?_
      refine SXL.nil ⟨rfl, rfl, rfl, ?_⟩
      refine SXA.takeM 4 2 rfl (by kernel_rfl) rfl ?_
      refine SXL.move rfl ?_
      refine SXL.loadNo 2 sh_156 rfl rfl (takeAt_full (by simp only [length_ints, hLv.len])) ?_
      refine SXL.nil ⟨rfl, rfl, rfl, ?_⟩
      refine SXA.all [2, 6] (by kernel_rfl) rfl ⟨⟨?_, rfl⟩, ⟨?_, rfl⟩, trivial⟩
      · refine (show SXL _ _ [_] _ _ from ?_)
        refine SXL.buildSlice et_35 zp_3 rfl rfl rfl rfl ?_; intro b5
        refine SXL.nil (stepQ.mk _ rfl rfl ?_)
        refine SXA.all [3, 6] (by kernel_rfl) rfl ⟨⟨?_, rfl⟩, ⟨?_, rfl⟩, trivial⟩
        · refine (show SXL _ _ [_] _ _ from ?_)
          refine SXL.append 2 ap_35 rfl rfl ho1 rfl (.inr ⟨_, _, rfl, Mem.own (i := 5) rfl (takeAt_all _)⟩) rfl rfl ⟨by simp only [maxLen]; omega, by omega⟩ ?_; intro r_32 o_32
          refine SXL.nil (stepQ.mkL _ (by kernel_rfl) rfl rfl ?_)
          refine SXA.all [6] (by kernel_rfl) rfl ⟨⟨?_, rfl⟩, trivial⟩
          refine (show SXL _ _ [_] _ _ from ?_)
          refine SXL.buildSlice et_125 zp_156 rfl rfl rfl (bld_one rfl (by simp only [length_ints, hLv.len])) ?_; intro b6
          refine SXL.nil (stepQ.mk _ rfl rfl ?_)
          refine SXA.all [7] (by kernel_rfl) rfl ⟨⟨?_, rfl⟩, trivial⟩
          refine (show SXL _ _ [_] _ _ from ?_)
          refine SXL.append 3 ap_125 rfl rfl ho2 rfl (.inr ⟨_, _, rfl, Mem.own (i := 6) rfl (takeAt_all _)⟩) (by simp only [length_ints, hLv.len]) (ints_isOne _) ⟨by simp only [maxLen]; omega, by omega⟩ ?_; intro r_36 o_36
          refine SXL.nil (stepQ.mkL _ (by kernel_rfl) rfl rfl ?_)
          refine SXA.takeM 8 2 rfl (by kernel_rfl) rfl ?_
          refine SXL.assign rfl ?_
          refine SXL.assign rfl ?_
          refine SXL.nil ⟨rfl, rfl, rfl, ?_⟩
          refine SXA.done (by kernel_rfl) ?_
          refine SXL.nil ?_
          refine blockQ.normal ?_
          refine thenQ.normal ?_
          refine SX.region ?_
          refine SXL.move rfl ?_
          refine SXL.add rfl rfl (by omega) ?_
          refine SXL.assign rfl ?_
          refine SXL.nil ?_
          refine thenQ.normal ?_
          refine ⟨(k + 1, _, _, _, _, _, _), Meets.mk _ ⟨congrArg (fun z => some (Value.int .i64 z)) (show s.w0 + (k : Int) + 1 = s.w0 + ((k + 1 : Nat) : Int) by omega), rfl, rfl, trivial⟩ ⟨rfl, rfl, rfl, rfl, trivial⟩ rfl, ?_, ?_⟩
          · refine ⟨by omega, ?_⟩
            first
              | exact ⟨o_32, by rw [rnsTo_yes c28]; simp [ints_snoc], o_36, by rw [rnsTo_yes c28]; simp [rowsI, lvsL], rfl⟩
              | exact ⟨ho1, by rw [rnsTo_no c28], ho2, by rw [rnsTo_no c28], rfl⟩
          · show rnN s - (k + 1) < rnN s - k; omega
        · refine (show SXL _ _ [_] _ _ from ?_)
          refine SXL.buildSlice et_125 zp_156 rfl rfl rfl (bld_one rfl (by simp only [length_ints, hLv.len])) ?_; intro b6
          refine SXL.nil (stepQ.mk _ rfl rfl ?_)
          refine SXA.all [3] (by kernel_rfl) rfl ⟨⟨?_, rfl⟩, trivial⟩
          refine (show SXL _ _ [_] _ _ from ?_)
          refine SXL.append 2 ap_35 rfl rfl ho1 rfl (.inr ⟨_, _, rfl, Mem.own (i := 5) rfl (takeAt_all _)⟩) rfl rfl ⟨by simp only [maxLen]; omega, by omega⟩ ?_; intro r_32 o_32
          refine SXL.nil (stepQ.mkL _ (by kernel_rfl) rfl rfl ?_)
          refine SXA.all [7] (by kernel_rfl) rfl ⟨⟨?_, rfl⟩, trivial⟩
          refine (show SXL _ _ [_] _ _ from ?_)
          refine SXL.append 3 ap_125 rfl rfl ho2 rfl (.inr ⟨_, _, rfl, Mem.own (i := 6) rfl (takeAt_all _)⟩) (by simp only [length_ints, hLv.len]) (ints_isOne _) ⟨by simp only [maxLen]; omega, by omega⟩ ?_; intro r_36 o_36
          refine SXL.nil (stepQ.mkL _ (by kernel_rfl) rfl rfl ?_)
          refine SXA.takeM 8 2 rfl (by kernel_rfl) rfl ?_
          refine SXL.assign rfl ?_
          refine SXL.assign rfl ?_
          refine SXL.nil ⟨rfl, rfl, rfl, ?_⟩
          refine SXA.done (by kernel_rfl) ?_
          refine SXL.nil ?_
          refine blockQ.normal ?_
          refine thenQ.normal ?_
          refine SX.region ?_
          refine SXL.move rfl ?_
          refine SXL.add rfl rfl (by omega) ?_
          refine SXL.assign rfl ?_
          refine SXL.nil ?_
          refine thenQ.normal ?_
          refine ⟨(k + 1, _, _, _, _, _, _), Meets.mk _ ⟨congrArg (fun z => some (Value.int .i64 z)) (show s.w0 + (k : Int) + 1 = s.w0 + ((k + 1 : Nat) : Int) by omega), rfl, rfl, trivial⟩ ⟨rfl, rfl, rfl, rfl, trivial⟩ rfl, ?_, ?_⟩
          · refine ⟨by omega, ?_⟩
            first
              | exact ⟨o_32, by rw [rnsTo_yes c28]; simp [ints_snoc], o_36, by rw [rnsTo_yes c28]; simp [rowsI, lvsL], rfl⟩
              | exact ⟨ho1, by rw [rnsTo_no c28], ho2, by rw [rnsTo_no c28], rfl⟩
          · show rnN s - (k + 1) < rnN s - k; omega
      · refine (show SXL _ _ [_] _ _ from ?_)
        refine SXL.buildSlice et_125 zp_156 rfl rfl rfl (bld_one rfl (by simp only [length_ints, hLv.len])) ?_; intro b5
        refine SXL.nil (stepQ.mk _ rfl rfl ?_)
        refine SXA.all [2] (by kernel_rfl) rfl ⟨⟨?_, rfl⟩, trivial⟩
        refine (show SXL _ _ [_] _ _ from ?_)
        refine SXL.buildSlice et_35 zp_3 rfl rfl rfl rfl ?_; intro b6
        refine SXL.nil (stepQ.mk _ rfl rfl ?_)
        refine SXA.all [3] (by kernel_rfl) rfl ⟨⟨?_, rfl⟩, trivial⟩
        refine (show SXL _ _ [_] _ _ from ?_)
        refine SXL.append 2 ap_35 rfl rfl ho1 rfl (.inr ⟨_, _, rfl, Mem.own (i := 6) rfl (takeAt_all _)⟩) rfl rfl ⟨by simp only [maxLen]; omega, by omega⟩ ?_; intro r_32 o_32
        refine SXL.nil (stepQ.mkL _ (by kernel_rfl) rfl rfl ?_)
        refine SXA.all [7] (by kernel_rfl) rfl ⟨⟨?_, rfl⟩, trivial⟩
        refine (show SXL _ _ [_] _ _ from ?_)
        refine SXL.append 3 ap_125 rfl rfl ho2 rfl (.inr ⟨_, _, rfl, Mem.own (i := 5) rfl (takeAt_all _)⟩) (by simp only [length_ints, hLv.len]) (ints_isOne _) ⟨by simp only [maxLen]; omega, by omega⟩ ?_; intro r_36 o_36
        refine SXL.nil (stepQ.mkL _ (by kernel_rfl) rfl rfl ?_)
        refine SXA.takeM 8 2 rfl (by kernel_rfl) rfl ?_
        refine SXL.assign rfl ?_
        refine SXL.assign rfl ?_
        refine SXL.nil ⟨rfl, rfl, rfl, ?_⟩
        refine SXA.done (by kernel_rfl) ?_
        refine SXL.nil ?_
        refine blockQ.normal ?_
        refine thenQ.normal ?_
        refine SX.region ?_
        refine SXL.move rfl ?_
        refine SXL.add rfl rfl (by omega) ?_
        refine SXL.assign rfl ?_
        refine SXL.nil ?_
        refine thenQ.normal ?_
        refine ⟨(k + 1, _, _, _, _, _, _), Meets.mk _ ⟨congrArg (fun z => some (Value.int .i64 z)) (show s.w0 + (k : Int) + 1 = s.w0 + ((k + 1 : Nat) : Int) by omega), rfl, rfl, trivial⟩ ⟨rfl, rfl, rfl, rfl, trivial⟩ rfl, ?_, ?_⟩
        · refine ⟨by omega, ?_⟩
          first
            | exact ⟨o_32, by rw [rnsTo_yes c28]; simp [ints_snoc], o_36, by rw [rnsTo_yes c28]; simp [rowsI, lvsL], rfl⟩
            | exact ⟨ho1, by rw [rnsTo_no c28], ho2, by rw [rnsTo_no c28], rfl⟩
        · show rnN s - (k + 1) < rnN s - k; omega
    · refine SX.skip ?_
      refine blockQ.normal ?_
      refine thenQ.normal ?_
      refine SX.region ?_
      refine SXL.move rfl ?_
      refine SXL.add rfl rfl (by omega) ?_
      refine SXL.assign rfl ?_
      refine SXL.nil ?_
      refine thenQ.normal ?_
      refine ⟨(k + 1, _, _, _, _, _, _), Meets.mk _ ⟨congrArg (fun z => some (Value.int .i64 z)) (show s.w0 + (k : Int) + 1 = s.w0 + ((k + 1 : Nat) : Int) by omega), rfl, rfl, trivial⟩ ⟨rfl, rfl, rfl, rfl, trivial⟩ rfl, ?_, ?_⟩
      · refine ⟨by omega, ?_⟩
        first
          | exact ⟨o_32, by rw [rnsTo_yes c28]; simp [ints_snoc], o_36, by rw [rnsTo_yes c28]; simp [rowsI, lvsL], rfl⟩
          | exact ⟨ho1, by rw [rnsTo_no c28], ho2, by rw [rnsTo_no c28], rfl⟩
      · show rnN s - (k + 1) < rnN s - k; omega
  · refine SX.exit ?_
    refine thenQ.exit ?_
    refine thenQ.exit ?_
    refine blockQ.exit ?_
    refine thenQ.normal ?_
    refine SX.seq ?_
    have hkN : k = rnN s := by omega
    subst hkN
    refine SX.region ?_
    refine SXL.move rfl ?_
    refine SXL.move rfl ?_
    refine SXL.assign rfl ?_
    refine SXL.assign rfl ?_
    refine SXL.nil ?_
    refine thenQ.normal ?_
    refine SX.ret ?_
    refine retQ.sel [2, 3] rfl rfl ?_
    refine retQ.two (ResAt.tmp rfl) (ResAt.tmp rfl) ?_
    refine ⟨r1, r2, ?_⟩; have e2 := Ok.n ho1; subst e2; exact ⟨ho1, by simpa [lvsL, rnsL] using ho2, by simp [lvsL, rnsL], rfl⟩
end Go.Proofs.YtknflipongbngaaDoor
