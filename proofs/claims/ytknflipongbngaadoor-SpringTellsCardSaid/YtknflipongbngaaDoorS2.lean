/- The walks of functions. -/
import Derived.Test.YtknflipongbngaaDoorFacts
import Derived.Test.YtknflipongbngaaDoorS1
import Derived.Test.YtknflipongbngaaDoorD4
namespace Go.Proofs.YtknflipongbngaaDoor
open Go.X Go.S Go.RowKit
theorem scheck_any (s : Sp) (bo ro : Option Addr) (bc rc : Nat) (hb : s.book.length ≤ 1000000) (hr : s.reads.length ≤ 1000000) (w : World) (hg : Gl w) (hs : SpAt w s bo ro) :
    CallsR Tryd.prog 26 [.agg ⟨[.int .i64 s.weeks, .int .i64 s.most, .int .i64 s.fall, .int .i64 s.a0, .int .i64 s.a1, .int .i64 s.w0, .int .i64 s.w1, (.slice bo s.book.length bc), (.slice ro s.reads.length rc)]⟩] w (fun v _ => v = .int .i64 (if SpP s then 0 else 10)) := by
  refine CallsR.of_SX (n := 15) (rs := [.tmp 2]) Tryd.func26 rfl rfl rfl rfl ?_
  show SX _ _ _ ⟨[(0, .agg ⟨[.int .i64 s.weeks, .int .i64 s.most, .int .i64 s.fall, .int .i64 s.a0, .int .i64 s.a1, .int .i64 s.w0, .int .i64 s.w1, (.slice bo s.book.length bc), (.slice ro s.reads.length rc)]⟩)], [], []⟩
  refine SX.seq ?_
  refine SX.region ?_
  refine SXL.box rfl rfl ?_; intro b0
  refine SXL.assign rfl ?_
  refine SXL.nil ?_
  refine thenQ.normal ?_
  refine SX.seq ?_
  refine SX.seq ?_
  refine SX.region ?_
  refine SXL.loadN sh_131 rfl (hg.memC _) rfl ?_
  refine SXL.move rfl ?_
  refine SXL.nil ?_
  refine thenQ.normal ?_
  refine SX.block ?_
  refine SX.loopG (α := Nat) [1, 2, 5] rfl (fun k => [(6, .int .i64 ((k : Int)))]) (fun k => []) (fun k => k ≤ 5 ∧ ∀ i, i < k → ckP s i) (fun k => 5 - k) 0 ⟨Nat.zero_le _, fun _ h => absurd h (Nat.not_lt_zero _)⟩ ⟨rfl, trivial⟩ rfl ?_
  rintro k ⟨hk, hall⟩
  refine SX.seq ?_
  refine SX.region ?_
  refine SXL.lss rfl rfl ?_
  refine SXL.nil ?_
  refine thenQ.normal ?_
  refine SX.seq ?_
  refine SX.condP rfl (fun c7 => ?_) (fun c7 => ?_)
  · refine SX.skip ?_
    refine thenQ.normal ?_
    refine SX.seq ?_
    refine SX.block ?_
    refine SX.seq ?_
    refine SX.region ?_
    refine SXL.indexV ae_131 sh_130 rfl rfl (by omega) (chk_take k (by omega)) ?_
    refine SXL.alloc zp_130 ?_; intro b1
    refine SXL.store 1 sz_130 rfl rfl rfl rfl rfl rfl ?_
    refine SXL.nil ?_
    refine thenQ.normal ?_
    refine SX.seq ?_
    refine SX.region ?_
    refine SXL.fieldAddr fp_130_0 rfl ?_
    refine SXL.load1o 1 sh_28 rfl rfl rfl ?_
    refine SXL.loadNo 0 sh_27 rfl rfl rfl ?_
    refine SXL.call1V (.bool (decide (ckP s k))) (fn_chk k (by omega)) rfl rfl (fun w hI => chk_any s bo ro bc rc k (by omega) hall hb hr w (hs.inv hI)) ?_
    refine SXL.not rfl ?_
    refine SXL.nil ?_
    refine thenQ.normal ?_
    refine SX.condP rfl (fun c13 => ?_) (fun c13 => ?_)
    · refine SX.seq ?_
      refine SX.region ?_
      refine SXL.assign rfl ?_
      refine SXL.nil ?_
      refine thenQ.normal ?_
      refine SX.ret ?_
      refine blockQ.ret ?_
      refine thenQ.ret ?_
      refine thenQ.ret ?_
      refine blockQ.ret ?_
      refine thenQ.ret ?_
      refine retQ.one (ResAt.tmp rfl) ?_
      rw [if_neg (fun h => c13 ((ck_iff s).1 h k (by omega)))]
    · refine SX.skip ?_
      refine blockQ.normal ?_
      refine thenQ.normal ?_
      refine SX.region ?_
      refine SXL.add rfl rfl (by omega) ?_
      refine SXL.move rfl ?_
      refine SXL.nil ?_
      refine thenQ.normal ?_
      refine ⟨k + 1, Meets.mk _ ⟨rfl, trivial⟩ ⟨rfl, rfl, rfl, trivial⟩ rfl, ?_, (by omega)⟩
      refine ⟨by omega, fun i hi => ?_⟩
      by_cases e : i = k
      · subst e; exact Decidable.not_not.1 c13
      · exact hall i (by omega)
  · refine SX.exit ?_
    refine thenQ.exit ?_
    refine thenQ.exit ?_
    refine blockQ.exit ?_
    refine thenQ.normal ?_
    refine SX.seq ?_
    refine SX.region ?_
    refine SXL.assign rfl ?_
    refine SXL.nil ?_
    refine thenQ.normal ?_
    refine SX.ret ?_
    refine retQ.one (ResAt.tmp rfl) ?_
    rw [if_pos ((ck_iff s).2 fun i hi => hall i (by omega))]
theorem both_any (a b c d : Int) (w : World) (hg : Gl w) :
    CallsR Tryd.prog 116 [.agg ⟨[.int .i64 a, .int .i64 b]⟩, .agg ⟨[.int .i64 c, .int .i64 d]⟩] w (fun v _ => v = spanV (bothP a b c d)) := by
  refine CallsR.of_SX (n := 24) (rs := [.cell 4 23]) Tryd.func116 rfl rfl rfl rfl ?_
  show SX _ _ _ ⟨[(0, .agg ⟨[.int .i64 a, .int .i64 b]⟩), (1, .agg ⟨[.int .i64 c, .int .i64 d]⟩)], [], []⟩
  refine SX.seq ?_
  refine SX.region ?_
  refine SXL.box rfl rfl ?_; intro b0
  refine SXL.box rfl rfl ?_; intro b1
  refine SXL.alloc zp_23 ?_; intro b2
  refine SXL.nil ?_
  refine thenQ.normal ?_
  refine SX.seq ?_
  refine SX.region ?_
  refine SXL.fieldAddr fp_23_0 rfl ?_
  refine SXL.load1o 0 sh_3 rfl rfl rfl ?_
  refine SXL.fieldAddr fp_23_0 rfl ?_
  refine SXL.load1o 1 sh_3 rfl rfl rfl ?_
  refine SXL.max rfl rfl ?_
  refine SXL.fieldAddr fp_23_1 rfl ?_
  refine SXL.load1o 0 sh_3 rfl rfl rfl ?_
  refine SXL.fieldAddr fp_23_1 rfl ?_
  refine SXL.load1o 1 sh_3 rfl rfl rfl ?_
  refine SXL.min rfl rfl ?_
  refine SXL.buildS pl_23 zp_23 rfl rfl ?_
  refine SXL.alloc zp_23 ?_; intro b3
  refine SXL.store 3 sz_23 rfl rfl rfl rfl rfl rfl ?_
  refine SXL.nil ?_
  refine thenQ.normal ?_
  refine SX.seq ?_
  refine SX.seq ?_
  refine SX.region ?_
  refine SXL.fieldAddr fp_23_0 rfl ?_
  refine SXL.load1o 3 sh_3 rfl rfl rfl ?_
  refine SXL.fieldAddr fp_23_1 rfl ?_
  refine SXL.load1o 3 sh_3 rfl rfl rfl ?_
  refine SXL.gtr rfl rfl ?_
  refine SXL.nil ?_
  refine thenQ.normal ?_
  refine SX.condP rfl (fun c21 => ?_) (fun c21 => ?_)
  · refine SX.seq ?_
    refine SX.region ?_
    refine SXL.loadN sh_23 rfl (hg.memN _) rfl ?_
    refine SXL.store 2 sz_23 rfl rfl rfl rfl rfl rfl ?_
    refine SXL.nil ?_
    refine thenQ.normal ?_
    refine SX.ret ?_
    refine thenQ.ret ?_
    refine retQ.one (ResAt.cellNo 2 sh_23 rfl rfl rfl) ?_
    rw [bothP, if_pos c21]; rfl
  · refine SX.skip ?_
    refine thenQ.normal ?_
    refine SX.seq ?_
    refine SX.region ?_
    refine SXL.loadNo 3 sh_23 rfl rfl rfl ?_
    refine SXL.store 2 sz_23 rfl rfl rfl rfl rfl rfl ?_
    refine SXL.nil ?_
    refine thenQ.normal ?_
    refine SX.ret ?_
    refine retQ.one (ResAt.cellNo 2 sh_23 rfl rfl rfl) ?_
    rw [bothP, if_neg c21]; rfl
theorem reads_any (s : Sp) (bo ro : Option Addr) (bc rc : Nat) (x : Rd) (h1 : Spn s.a0 s.a1 1 600) (h2 : Spn x.s0 x.s1 0 99) (h3 : Wi x.bu 1 40) (h4 : 0 < x.s1) (h5 : Wi s.most 0 100) (w : World) (hg : Gl w) :
    CallsR Tryd.prog 81 [.agg ⟨[.int .i64 s.weeks, .int .i64 s.most, .int .i64 s.fall, .int .i64 s.a0, .int .i64 s.a1, .int .i64 s.w0, .int .i64 s.w1, (.slice bo s.book.length bc), (.slice ro s.reads.length rc)]⟩, .agg ⟨x.cells⟩] w (fun v _ => v = spanV (readsP s x)) := by
  have m1 := mul2 (a := x.s1) (b := s.a1) (A := 99) (B := 600) (by omega) (by omega) (by omega) (by omega)
  have m2 := mul2 (a := x.s0) (b := s.a0) (A := 99) (B := 600) (by omega) (by omega) (by omega) (by omega)
  have m3 := Int.mul_pos h4 (show 0 < s.a1 by omega)
  refine CallsR.of_SX (n := 49) (rs := [.cell 4 23]) Tryd.func81 rfl rfl rfl rfl ?_
  show SX _ _ _ ⟨[(0, .agg ⟨[.int .i64 s.weeks, .int .i64 s.most, .int .i64 s.fall, .int .i64 s.a0, .int .i64 s.a1, .int .i64 s.w0, .int .i64 s.w1, (.slice bo s.book.length bc), (.slice ro s.reads.length rc)]⟩), (1, .agg ⟨x.cells⟩)], [], []⟩
  refine SX.seq ?_
  refine SX.region ?_
  refine SXL.box rfl rfl ?_; intro b0
  refine SXL.box rfl rfl ?_; intro b1
  refine SXL.alloc zp_23 ?_; intro b2
  refine SXL.nil ?_
  refine thenQ.normal ?_
  refine SX.seq ?_
  refine SX.region ?_
  refine SXL.fieldAddr fp_54_2 rfl ?_
  refine SXL.load1o 1 sh_3 rfl rfl rfl ?_
  refine SXL.mul rfl rfl (by omega) ?_
  refine SXL.assign rfl ?_
  refine SXL.nil ?_
  refine thenQ.normal ?_
  refine SX.seq ?_
  refine SX.draw 16 (by kernel_rfl) (by kernel_rfl) {} ?_
  refine SXA.take 0 16 rfl (by kernel_rfl) rfl ?_
  refine SXL.fieldAddr fp_54_3 rfl ?_
  refine SXL.fieldAddr fp_23_1 rfl ?_
  refine SXL.load1o 1 sh_3 rfl rfl rfl ?_
  refine SXL.fieldAddr fp_27_3 rfl ?_
  refine SXL.fieldAddr fp_23_1 rfl ?_
  refine SXL.load1o 0 sh_3 rfl rfl rfl ?_
  refine SXL.mul rfl rfl (by omega) ?_
  refine SXL.fieldAddr fp_54_3 rfl ?_
  refine SXL.fieldAddr fp_23_0 rfl ?_
  refine SXL.load1o 1 sh_3 rfl rfl rfl ?_
  refine SXL.fieldAddr fp_27_3 rfl ?_
  refine SXL.fieldAddr fp_23_0 rfl ?_
  refine SXL.load1o 0 sh_3 rfl rfl rfl ?_
  refine SXL.mul rfl rfl (by omega) ?_
  refine SXL.assign rfl ?_
  refine SXL.assign rfl ?_
  refine SXL.nil ⟨rfl, rfl, rfl, ?_⟩
  refine SXA.done (by kernel_rfl) ?_
  refine SXL.nil ?_
  refine thenQ.normal ?_
  refine SX.seq ?_
  refine SX.draw 10 (by kernel_rfl) (by kernel_rfl) {} ?_
  refine SXA.take 0 9 rfl (by kernel_rfl) rfl ?_
  refine SXL.move rfl ?_
  refine SXL.move rfl ?_
  refine SXL.add rfl rfl (by omega) ?_
  refine SXL.sub rfl rfl (by omega) ?_
  refine SXL.move rfl ?_
  refine SXL.quo rfl rfl (by omega) ?_
  refine SXL.fieldAddr fp_27_1 rfl ?_
  refine SXL.load1o 0 sh_3 rfl rfl rfl ?_
  refine SXL.buildS pl_23 zp_23 rfl rfl ?_
  refine SXL.nil ⟨rfl, rfl, rfl, ?_⟩
  refine SXA.all [9] (by kernel_rfl) rfl ⟨⟨?_, rfl⟩, trivial⟩
  refine (show SXL _ _ [_] _ _ from ?_)
  refine SXL.alloc zp_23 ?_; intro b3
  refine SXL.nil (stepQ.mk _ rfl rfl ?_)
  refine SXA.done (by kernel_rfl) ?_
  refine SXL.store 3 sz_23 rfl rfl rfl rfl rfl rfl ?_
  refine SXL.nil ?_
  refine thenQ.normal ?_
  refine SX.cutG (α := Unit) [2, 4, 8] rfl (fun _u => []) (fun _u => [(3, (b3, .cells ⟨[.int .i64 ((3600 * x.bu + x.s1 * s.a1 - 1) / (x.s1 * s.a1)), .int .i64 (if 0 < x.s0 * s.a0 then min s.most ((3600 * x.bu) / (x.s0 * s.a0)) else s.most)]⟩ 23 (0, 0)))]) (fun _u => True) ?_ ?_
  · refine SX.seq ?_
    refine SX.region ?_
    refine SXL.move rfl ?_
    refine SXL.gtr rfl rfl ?_
    refine SXL.nil ?_
    refine thenQ.normal ?_
    refine SX.condP rfl (fun c36 => ?_) (fun c36 => ?_)
    · refine SX.draw 7 (by kernel_rfl) (by kernel_rfl) {} ?_
      refine SXA.take 0 7 rfl (by kernel_rfl) rfl ?_
      refine SXL.fieldAddr fp_23_1 rfl ?_
      refine SXL.load1o 3 sh_3 rfl rfl rfl ?_
      refine SXL.move rfl ?_
      refine SXL.move rfl ?_
      refine SXL.quo rfl rfl (by omega) ?_
      refine SXL.min rfl rfl ?_
      refine SXL.fieldAddr fp_23_1 rfl ?_
      refine SXL.nil ⟨rfl, rfl, rfl, ?_⟩
      refine SXA.done (by kernel_rfl) ?_
      refine SXL.store 3 sz_3 rfl rfl rfl rfl rfl rfl ?_
      refine SXL.nil ?_
      refine thenQ.normal ?_
      refine ⟨(), Meets.mk _ trivial ⟨rfl, rfl, rfl, trivial⟩ (by first | (rw [if_pos c36]; rfl) | (rw [if_neg c36]; rfl)), trivial⟩
    · refine SX.skip ?_
      refine thenQ.normal ?_
      refine ⟨(), Meets.mk _ trivial ⟨rfl, rfl, rfl, trivial⟩ (by first | (rw [if_pos c36]; rfl) | (rw [if_neg c36]; rfl)), trivial⟩
  rintro _ _
  refine SX.seq ?_
  refine SX.region ?_
  refine SXL.loadNo 3 sh_23 rfl rfl rfl ?_
  refine SXL.fieldAddr fp_27_1 rfl ?_
  refine SXL.load1o 0 sh_3 rfl rfl rfl ?_
  refine SXL.buildS pl_23 zp_23 rfl rfl ?_
  refine SXL.call1 (spanV (bothP ((3600 * x.bu + x.s1 * s.a1 - 1) / (x.s1 * s.a1)) (if 0 < x.s0 * s.a0 then min s.most ((3600 * x.bu) / (x.s0 * s.a0)) else s.most) (0) (s.most))) fn_116 rfl (fun w hI => both_any _ _ _ _ _ (hg.inv hI)) ?_
  refine SXL.store 2 sz_23 rfl rfl rfl rfl rfl rfl ?_
  refine SXL.nil ?_
  refine thenQ.normal ?_
  refine SX.ret ?_
  refine retQ.one (ResAt.cellNo 2 sh_23 rfl rfl rfl) ?_
  first | rfl | assumption
theorem flowing_any (s : Sp) (bo ro : Option Addr) (bc rc : Nat) (hv : SpP s) (w : World) (hg : Gl w) (hs : SpAt w s bo ro) :
    CallsR Tryd.prog 72 [.agg ⟨[.int .i64 s.weeks, .int .i64 s.most, .int .i64 s.fall, .int .i64 s.a0, .int .i64 s.a1, .int .i64 s.w0, .int .i64 s.w1, (.slice bo s.book.length bc), (.slice ro s.reads.length rc)]⟩] w (fun v _ => v = .agg ⟨watC s bo ro bc rc (flL s)⟩) := by
  have hH := hv.1
  unfold HeadP at hH
  refine CallsR.of_SX (n := 43) (rs := [.cell 2 117]) Tryd.func72 rfl rfl rfl rfl ?_
  show SX _ _ _ ⟨[(0, .agg ⟨[.int .i64 s.weeks, .int .i64 s.most, .int .i64 s.fall, .int .i64 s.a0, .int .i64 s.a1, .int .i64 s.w0, .int .i64 s.w1, (.slice bo s.book.length bc), (.slice ro s.reads.length rc)]⟩)], [], []⟩
  refine SX.seq ?_
  refine SX.region ?_
  refine SXL.box rfl rfl ?_; intro b0
  refine SXL.alloc zp_117 ?_; intro b1
  refine SXL.nil ?_
  refine thenQ.normal ?_
  refine SX.seq ?_
  refine SX.region ?_
  refine SXL.loadNo 0 sh_27 rfl rfl rfl ?_
  refine SXL.buildS pl_117 zp_117 rfl rfl ?_
  refine SXL.alloc zp_117 ?_; intro b2
  refine SXL.store 2 sz_117 rfl rfl rfl rfl rfl rfl ?_
  refine SXL.nil ?_
  refine thenQ.normal ?_
  refine SX.seq ?_
  refine SX.seq ?_
  refine SX.region ?_
  refine SXL.fieldAddr fp_27_0 rfl ?_
  refine SXL.load1o 0 sh_3 rfl rfl rfl ?_
  refine SXL.move rfl ?_
  refine SXL.nil ?_
  refine thenQ.normal ?_
  refine SX.block ?_
  refine SX.loopG (α := Nat) [1, 2, 3, 10] rfl (fun k => [(11, .int .i64 ((k : Int)))]) (fun k => [(2, (b2, .cells ⟨watC s bo ro bc rc (fl0 s k)⟩ 117 (0, 0)))]) (fun k => k ≤ s.weeks.toNat) (fun k => s.weeks.toNat - k) 0 (Nat.zero_le _) ⟨rfl, trivial⟩ rfl ?_
  rintro k hk
  refine SX.seq ?_
  refine SX.region ?_
  refine SXL.lss rfl rfl ?_
  refine SXL.nil ?_
  refine thenQ.normal ?_
  refine SX.seq ?_
  refine SX.condP rfl (fun c1 => ?_) (fun c1 => ?_)
  · refine SX.skip ?_
    refine thenQ.normal ?_
    refine SX.seq ?_
    refine SX.block ?_
    refine SX.seq ?_
    refine SX.region ?_
    refine SXL.move rfl ?_
    refine SXL.assign rfl ?_
    refine SXL.nil ?_
    refine thenQ.normal ?_
    refine SX.region ?_
    refine SXL.move rfl ?_
    refine SXL.fieldAddr fp_27_1 rfl ?_
    refine SXL.load1o 0 sh_3 rfl rfl rfl ?_
    refine SXL.buildS pl_23 zp_23 rfl rfl ?_
    refine SXL.fieldAddr fp_117_1 rfl ?_
    refine SXL.indexA el_114 rfl rfl (by omega) ?_
    refine SXL.store 2 sz_23 rfl rfl rfl rfl rfl (putApp 9 rfl (ints_put2' (p := (0, s.most)) (i := k) rfl (by simp only [fl0_len]; omega)) (by omega)) ?_
    refine SXL.nil ?_
    refine blockQ.normal ?_
    refine thenQ.normal ?_
    refine SX.region ?_
    refine SXL.add rfl rfl (by omega) ?_
    refine SXL.move rfl ?_
    refine SXL.nil ?_
    refine thenQ.normal ?_
    refine ⟨k + 1, Meets.mk _ ⟨rfl, trivial⟩ ⟨rfl, rfl, rfl, rfl, trivial⟩ rfl, (by omega), (by omega)⟩
  · refine SX.exit ?_
    refine thenQ.exit ?_
    refine thenQ.exit ?_
    refine blockQ.exit ?_
    refine thenQ.normal ?_
    refine SX.seq ?_
    refine SX.seq ?_
    obtain rfl : k = s.weeks.toNat := by omega
    refine SX.region ?_
    refine SXL.fieldAddr fp_27_6 rfl ?_
    refine SXL.load1o 0 sh_25 rfl rfl rfl ?_
    refine SXL.len is_25 rfl ?_
    refine SXL.move rfl ?_
    refine SXL.nil ?_
    refine thenQ.normal ?_
    refine SX.block ?_
    refine SX.loopG (α := Nat) [1, 2, 3, 22, 23] rfl (fun k => [(24, .int .i64 ((k : Int)))]) (fun k => [(2, (b2, .cells ⟨watC s bo ro bc rc (flTo s k)⟩ 117 (0, 0)))]) (fun k => k ≤ s.reads.length) (fun k => s.reads.length - k) 0 (Nat.zero_le _) ⟨rfl, trivial⟩ rfl ?_
    rintro k hk2
    refine SX.seq ?_
    refine SX.region ?_
    refine SXL.lss rfl rfl ?_
    refine SXL.nil ?_
    refine thenQ.normal ?_
    refine SX.seq ?_
    refine SX.condP rfl (fun c2 => ?_) (fun c2 => ?_)
    · refine SX.skip ?_
      refine thenQ.normal ?_
      refine SX.seq ?_
      refine SX.block ?_
      refine SX.seq ?_
      obtain ⟨b, o, ha, hm⟩ := hs.readD (i := k) (by omega)
      have hrd := ((reads_iff s).1 hv.2.2 k (by omega)).1
      refine SX.region ?_
      refine SXL.indexR el_25 rfl rfl ha (by omega) ?_
      refine SXL.loadN sh_54 rfl (hm _) rfl ?_
      refine SXL.alloc zp_54 ?_; intro b3
      refine SXL.store 3 sz_54 rfl rfl rfl rfl rfl rfl ?_
      refine SXL.nil ?_
      refine thenQ.normal ?_
      refine SX.draw 13 (by kernel_rfl) (by kernel_rfl) {} ?_
      refine SXA.take 0 13 rfl (by kernel_rfl) rfl ?_
      refine SXL.fieldAddr fp_54_1 rfl ?_
      refine SXL.load1o 3 sh_3 rfl rfl rfl ?_
      refine SXL.fieldAddr fp_54_1 rfl ?_
      refine SXL.load1o 3 sh_3 rfl rfl rfl ?_
      refine SXL.fieldAddr fp_117_1 rfl ?_
      refine SXL.indexA el_114 rfl rfl (by omega) ?_
      refine SXL.loadNo 2 sh_23 rfl rfl (takeApp 9 rfl (ints_take2' (i := (s.reads.getD k default).wk.toNat) rfl (by simp only [flTo_len]; omega)) (by omega)) ?_
      refine SXL.loadNo 0 sh_27 rfl rfl rfl ?_
      refine SXL.loadNo 3 sh_54 rfl rfl rfl ?_
      refine SXL.call1 (spanV (readsP s (s.reads.getD k default))) fn_81 rfl (fun w hI => reads_any s bo ro bc rc (s.reads.getD k default) (by omega) (by omega) (by omega) (by omega) (by omega) _ (hg.inv hI)) ?_
      refine SXL.call1 (spanV (bothP (Lo (flTo s k) (s.reads.getD k default).wk.toNat) (Hi (flTo s k) (s.reads.getD k default).wk.toNat) ((readsP s (s.reads.getD k default)).1) ((readsP s (s.reads.getD k default)).2))) fn_116 rfl (fun w hI => both_any _ _ _ _ _ (hg.inv hI)) ?_
      refine SXL.fieldAddr fp_117_1 rfl ?_
      refine SXL.indexA el_114 rfl rfl (by omega) ?_
      refine SXL.nil ⟨rfl, rfl, rfl, ?_⟩
      refine SXA.done (by kernel_rfl) ?_
      refine SXL.store 2 sz_23 rfl rfl rfl rfl rfl (putApp 9 rfl (ints_put2' (p := bothP (Lo (flTo s k) (s.reads.getD k default).wk.toNat) (Hi (flTo s k) (s.reads.getD k default).wk.toNat) (readsP s (s.reads.getD k default)).1 (readsP s (s.reads.getD k default)).2) (i := (s.reads.getD k default).wk.toNat) rfl (by simp only [flTo_len]; omega)) (by omega)) ?_
      refine SXL.nil ?_
      refine blockQ.normal ?_
      refine thenQ.normal ?_
      refine SX.region ?_
      refine SXL.add rfl rfl (by omega) ?_
      refine SXL.move rfl ?_
      refine SXL.nil ?_
      refine thenQ.normal ?_
      refine ⟨k + 1, Meets.mk _ ⟨rfl, trivial⟩ ⟨rfl, rfl, rfl, rfl, rfl, trivial⟩ rfl, (by omega), (by omega)⟩
    · refine SX.exit ?_
      refine thenQ.exit ?_
      refine thenQ.exit ?_
      refine blockQ.exit ?_
      refine thenQ.normal ?_
      refine SX.seq ?_
      obtain rfl : k = s.reads.length := by omega
      refine SX.region ?_
      refine SXL.loadNo 2 sh_117 rfl rfl (takeAt_full (watC_len (by simp))) ?_
      refine SXL.store 1 sz_117 rfl rfl rfl rfl (watC_len (by simp)) (putAt_all _ _ (watC_len (by simp))) ?_ (watC_one _ _ _ _ _ _)
      refine SXL.nil ?_
      refine thenQ.normal ?_
      refine SX.ret ?_
      refine retQ.one (ResAt.cellNo 1 sh_117 rfl rfl (takeAt_full (watC_len (by simp)))) ?_
      first | rfl | assumption
end Go.Proofs.YtknflipongbngaaDoor
