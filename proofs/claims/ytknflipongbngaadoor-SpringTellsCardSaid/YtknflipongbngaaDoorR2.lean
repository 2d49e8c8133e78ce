/- The walks of functions. -/
import Derived.Test.YtknflipongbngaaDoorFacts
import Derived.Test.YtknflipongbngaaDoorD1
import Derived.Test.YtknflipongbngaaDoorP2
import Derived.Test.YtknflipongbngaaDoorR1
namespace Go.Proofs.YtknflipongbngaaDoor
open Go.X Go.S
theorem linesTo_yes {s : Sp} {L : List Int} (rain : Int) {i : Nat} (h : i < s.book.length) (hc : Wi rain s.book[i].r0 s.book[i].r1) :
    linesTo s L rain (i + 1) = ((linesTo s L rain i).set s.book[i].wk.toNat (max (G (linesTo s L rain i) s.book[i].wk.toNat) s.book[i].g0)).set (10 + s.book[i].wk.toNat) (min (G (linesTo s L rain i) (10 + s.book[i].wk.toNat)) s.book[i].g1) := by
  simp only [linesTo, List.getElem?_eq_getElem h, lineStep, if_pos hc]
theorem linesTo_no {s : Sp} {L : List Int} (rain : Int) {i : Nat} (h : i < s.book.length) (hc : ¬Wi rain s.book[i].r0 s.book[i].r1) : linesTo s L rain (i + 1) = linesTo s L rain i := by
  simp only [linesTo, List.getElem?_eq_getElem h, lineStep, if_neg hc]
theorem okTo_zero (s : Sp) (w : Nat) (n : Int) : OkTo s w n 0 := fun _ hi => absurd hi (Nat.not_lt_zero _)
theorem okTo_succ {s : Sp} {w : Nat} {n : Int} {i : Nat} (hlt : i < s.reads.length) : (OkTo s w n i ∧ (s.reads[i].wk ≠ w ∨ Right s s.reads[i] n)) ↔ OkTo s w n (i + 1) := by
  constructor
  · rintro ⟨h1, h2⟩ k hk h
    by_cases e : k = i
    · subst e; exact h2
    · exact h1 k (by omega) h
  · intro h
    exact ⟨fun k hk h' => h k (by omega) h', h i (by omega) hlt⟩
theorem okTo_all {s : Sp} {w : Nat} {n : Int} (h : OkTo s w n s.reads.length) : OkP s w n := fun i hi => h i hi hi
theorem okTo_not {s : Sp} {w : Nat} {n : Int} (h : ¬OkTo s w n s.reads.length) : ¬OkP s w n := fun g => h fun i _ hi => g i hi
theorem base_any (s : Sp) (bo ro : Option Addr) (bc rc : Nat) (hv : SpP s) (w : World) (hs : SpAt w s bo ro) :
    CallsR Tryd.prog 113 [.agg ⟨[.int .i64 s.weeks, .int .i64 s.most, .int .i64 s.fall, .int .i64 s.a0, .int .i64 s.a1, .int .i64 s.w0, .int .i64 s.w1, (.slice bo s.book.length bc), (.slice ro s.reads.length rc)]⟩] w (fun v _ => v = .agg ⟨ints (baseL s)⟩) := by
  have hH := hv.1
  unfold HeadP at hH
  refine CallsR.of_SX (n := 66) (rs := [.cell 2 156]) Tryd.func113 rfl rfl rfl rfl ?_
  show SX _ _ _ ⟨[(0, .agg ⟨[.int .i64 s.weeks, .int .i64 s.most, .int .i64 s.fall, .int .i64 s.a0, .int .i64 s.a1, .int .i64 s.w0, .int .i64 s.w1, (.slice bo s.book.length bc), (.slice ro s.reads.length rc)]⟩)], [], []⟩
  refine SX.seq ?_
  refine SX.region ?_
  refine SXL.box rfl rfl ?_; intro b0
  refine SXL.alloc zp_156 ?_; intro b1
  refine SXL.nil ?_
  refine thenQ.normal ?_
  refine SX.seq ?_
  refine SX.region ?_
  refine SXL.alloc zp_156 ?_; intro b2
  refine SXL.nil ?_
  refine thenQ.normal ?_
  refine SX.seq ?_
  refine SX.seq ?_
  refine SX.region ?_
  refine SXL.assign rfl ?_
  refine SXL.nil ?_
  refine thenQ.normal ?_
  refine SX.block ?_
  refine SX.loopG (α := Nat) [1, 2, 3] rfl (fun k => [(4, .int .i64 (k : Int))]) (fun k => [(2, (b2, .cells ⟨ints (baseTo s k)⟩ 156 (0, 0)))]) (fun k => k ≤ s.weeks.toNat) (fun k => s.weeks.toNat - k) 0 (Nat.zero_le _) ⟨rfl, trivial⟩ rfl ?_
  rintro k hk
  have hB := Bd.base (s := s) hH.2.1 k (by omega)
  refine SX.seq ?_
  refine SX.seq ?_
  refine SX.region ?_
  refine SXL.move rfl ?_
  refine SXL.fieldAddr fp_27_0 rfl ?_
  refine SXL.load1o 0 sh_3 rfl rfl rfl ?_
  refine SXL.lss rfl rfl ?_
  refine SXL.nil ?_
  refine thenQ.normal ?_
  refine SX.condP rfl (fun c12 => ?_) (fun c12 => ?_)
  · refine SX.skip ?_
    refine thenQ.normal ?_
    refine SX.seq ?_
    refine SX.block ?_
    refine SX.seq ?_
    refine SX.region ?_
    refine SXL.move rfl ?_
    refine SXL.move rfl ?_
    refine SXL.fieldAddr fp_27_1 rfl ?_
    refine SXL.load1o 0 sh_3 rfl rfl rfl ?_
    refine SXL.add rfl rfl (by omega) ?_
    refine SXL.fieldAddr fp_156_0 rfl ?_
    refine SXL.indexA el_154 rfl rfl (by omega) ?_
    refine SXL.store 2 sz_3 rfl rfl rfl rfl rfl (ints_put (i := k) (by omega) (by simp only [hB.len]; omega)) ?_
    refine SXL.fieldAddr fp_156_1 rfl ?_
    refine SXL.indexA el_154 rfl rfl (by omega) ?_
    refine SXL.store 2 sz_3 rfl rfl rfl rfl rfl (ints_put (i := 10 + k) (by omega) (by simp only [List.length_set, hB.len]; omega)) ?_
    refine SXL.nil ?_
    refine thenQ.normal ?_
    refine SX.seq ?_
    refine SX.region ?_
    refine SXL.assign rfl ?_
    refine SXL.nil ?_
    refine thenQ.normal ?_
    refine SX.block ?_
    refine SX.loopG (α := Nat) [1, 2, 3, 4] rfl (fun j => [(5, .int .i64 (j : Int))]) (fun j => [(2, (b2, .cells ⟨ints (weekTo s (baseTo s k) k j)⟩ 156 (0, 0)))]) (fun j => j ≤ s.most.toNat + 1) (fun j => s.most.toNat + 1 - j) 0 (Nat.zero_le _) ⟨rfl, trivial⟩ rfl ?_
    rintro j hj
    have hBj := Bd.week (s := s) hB hH.2.1 (w := k) (by omega) j (by omega)
    refine SX.seq ?_
    refine SX.seq ?_
    refine SX.region ?_
    refine SXL.move rfl ?_
    refine SXL.fieldAddr fp_27_1 rfl ?_
    refine SXL.load1o 0 sh_3 rfl rfl rfl ?_
    refine SXL.leq rfl rfl ?_
    refine SXL.nil ?_
    refine thenQ.normal ?_
    refine SX.condP rfl (fun c27 => ?_) (fun c27 => ?_)
    · refine SX.skip ?_
      refine thenQ.normal ?_
      refine SX.seq ?_
      refine SX.block ?_
      refine SX.seq ?_
      refine SX.region ?_
      refine SXL.assign rfl ?_
      refine SXL.nil ?_
      refine thenQ.normal ?_
      refine SX.seq ?_
      refine SX.seq ?_
      refine SX.region ?_
      refine SXL.fieldAddr fp_27_6 rfl ?_
      refine SXL.load1o 0 sh_25 rfl rfl rfl ?_
      refine SXL.len is_25 rfl ?_
      refine SXL.move rfl ?_
      refine SXL.nil ?_
      refine thenQ.normal ?_
      refine SX.block ?_
      refine SX.loopG (α := Nat) [1, 2, 3, 4, 5, 31, 32] rfl (fun i => [(33, .int .i64 (i : Int)), (6, .bool (decide (OkTo s k (j : Int) i)))]) (fun i => []) (fun i => i ≤ s.reads.length) (fun i => s.reads.length - i) 0 (Nat.zero_le _) ⟨rfl, (congrArg (fun b => some (Value.bool b)) (decide_eq_true (okTo_zero s k j)).symm), trivial⟩ rfl ?_
      rintro i hi
      refine SX.seq ?_
      refine SX.region ?_
      refine SXL.lss rfl rfl ?_
      refine SXL.nil ?_
      refine thenQ.normal ?_
      refine SX.seq ?_
      refine SX.condP rfl (fun c34 => ?_) (fun c34 => ?_)
      · refine SX.skip ?_
        refine thenQ.normal ?_
        refine SX.seq ?_
        refine SX.block ?_
        refine SX.seq ?_
        have hlt : i < s.reads.length := by omega
        obtain ⟨b, o, ha, hm⟩ := hs.read hlt
        have hR := (hv.2.2 i hlt).1
        refine SX.region ?_
        refine SXL.indexR el_25 rfl rfl ha (by omega) ?_
        refine SXL.loadN sh_54 rfl (hm _) rfl ?_
        refine SXL.alloc zp_54 ?_; intro b3
        refine SXL.store 3 sz_54 rfl rfl rfl rfl rfl rfl ?_
        refine SXL.nil ?_
        refine thenQ.normal ?_
        refine SX.region ?_
        refine SXL.move rfl ?_
        refine SXL.move rfl ?_
        apply SXL.andG 10
        case hl => exact rfl
        case hd => exact rfl
        case hg => exact rfl
        case ht =>
          intro g4
          refine SXL.fieldAddr fp_54_1 rfl ?_
          refine SXL.load1o 3 sh_3 rfl rfl rfl ?_
          refine SXL.move rfl ?_
          refine SXL.neqI rfl rfl ?_
          refine SXL.move rfl ?_
          apply SXL.orG 4
          case hl => exact rfl
          case hd => exact rfl
          case hg => exact rfl
          case ht =>
            intro g5
            refine SXL.pass rfl rfl rfl ?_
            refine SXL.pass rfl rfl rfl ?_
            refine SXL.pass rfl rfl rfl ?_
            refine SXL.pass rfl rfl rfl ?_
            exact SXL.nil (segQ.mk (.skip rfl (.skip rfl (.skip rfl (.skip rfl (.skip rfl (EnvSub.refl _)))))) rfl rfl rfl)
          case hf =>
            intro g5
            refine SXL.loadNo 0 sh_27 rfl rfl rfl ?_
            refine SXL.loadNo 3 sh_54 rfl rfl rfl ?_
            refine SXL.move rfl ?_
            refine SXL.call1 (.bool (decide (Right s s.reads[i] (j : Int)))) fn_82 rfl (fun w hI => right_any s bo ro bc rc _ _ (by omega) (by omega) (by omega) (by omega) _) ?_
            exact SXL.nil (segQ.mk (.skip rfl (.skip rfl (.skip rfl (.skip rfl (.skip rfl (EnvSub.refl _)))))) rfl rfl ⟨rfl, rfl⟩)
          exact SXL.nil (segQ.mk (.skip rfl (.skip rfl (.skip rfl (.skip rfl (.skip rfl (.skip rfl (EnvSub.refl _))))))) rfl rfl ⟨rfl, rfl⟩)
        case hf =>
          intro g4
          refine SXL.pass rfl rfl rfl ?_
          refine SXL.pass rfl rfl rfl ?_
          refine SXL.pass rfl rfl rfl ?_
          refine SXL.pass rfl rfl rfl ?_
          refine SXL.pass rfl rfl rfl ?_
          refine SXL.pass rfl rfl rfl ?_
          refine SXL.pass rfl rfl rfl ?_
          refine SXL.pass rfl rfl rfl ?_
          refine SXL.pass rfl rfl rfl ?_
          refine SXL.pass rfl rfl rfl ?_
          exact SXL.nil (segQ.mk (.skip rfl (.skip rfl (.skip rfl (.skip rfl (.skip rfl (.skip rfl (.skip rfl (.skip rfl (.skip rfl (.skip rfl (.skip rfl (EnvSub.refl _)))))))))))) rfl rfl rfl)
        refine SXL.assign rfl ?_
        refine SXL.nil ?_
        refine blockQ.normal ?_
        refine thenQ.normal ?_
        refine SX.region ?_
        refine SXL.add rfl rfl (by omega) ?_
        refine SXL.move rfl ?_
        refine SXL.nil ?_
        refine thenQ.normal ?_
        refine ⟨i + 1, Meets.mk _ ⟨rfl, (congrArg (fun b => some (Value.bool b)) (decide_eq_decide.2 (okTo_succ hlt))), trivial⟩ ⟨rfl, rfl, rfl, rfl, rfl, rfl, rfl, trivial⟩ rfl, (by omega), (by omega)⟩
      · refine SX.exit ?_
        refine thenQ.exit ?_
        refine thenQ.exit ?_
        refine blockQ.exit ?_
        refine thenQ.normal ?_
        refine SX.seq ?_
        obtain rfl : i = s.reads.length := by omega
        refine SX.region ?_
        refine SXL.move rfl ?_
        refine SXL.nil ?_
        refine thenQ.normal ?_
        refine SX.condP rfl (fun c51 => ?_) (fun c51 => ?_)
        · refine SX.region ?_
          refine SXL.move rfl ?_
          refine SXL.move rfl ?_
          refine SXL.move rfl ?_
          refine SXL.fieldAddr fp_156_0 rfl ?_
          refine SXL.indexA el_154 rfl rfl (by omega) ?_
          refine SXL.load1o 2 sh_3 rfl rfl (ints_at (i := k) (by omega) (by simp only [hBj.len]; omega)) ?_
          refine SXL.move rfl ?_
          refine SXL.min rfl rfl ?_
          refine SXL.move rfl ?_
          refine SXL.fieldAddr fp_156_0 rfl ?_
          refine SXL.indexA el_154 rfl rfl (by omega) ?_
          refine SXL.store 2 sz_3 rfl rfl rfl rfl rfl (ints_put (i := k) (by omega) (by simp only [hBj.len]; omega)) ?_
          refine SXL.fieldAddr fp_156_1 rfl ?_
          refine SXL.indexA el_154 rfl rfl (by omega) ?_
          refine SXL.store 2 sz_3 rfl rfl rfl rfl rfl (ints_put (i := 10 + k) (by omega) (by simp only [List.length_set, hBj.len]; omega)) ?_
          refine SXL.nil ?_
          refine blockQ.normal ?_
          refine thenQ.normal ?_
          refine SX.region ?_
          refine SXL.move rfl ?_
          refine SXL.add rfl rfl (by omega) ?_
          refine SXL.assign rfl ?_
          refine SXL.nil ?_
          refine thenQ.normal ?_
          refine ⟨j + 1, Meets.mk _ ⟨rfl, trivial⟩ ⟨rfl, rfl, rfl, rfl, trivial⟩ (by first | (rw [show weekTo s (baseTo s k) k (j + 1) = _ from if_pos (okTo_all c51)]; rfl) | (rw [show weekTo s (baseTo s k) k (j + 1) = _ from if_neg (okTo_not c51)]; rfl)), (by omega), (by omega)⟩
        · refine SX.skip ?_
          refine blockQ.normal ?_
          refine thenQ.normal ?_
          refine SX.region ?_
          refine SXL.move rfl ?_
          refine SXL.add rfl rfl (by omega) ?_
          refine SXL.assign rfl ?_
          refine SXL.nil ?_
          refine thenQ.normal ?_
          refine ⟨j + 1, Meets.mk _ ⟨rfl, trivial⟩ ⟨rfl, rfl, rfl, rfl, trivial⟩ (by first | (rw [show weekTo s (baseTo s k) k (j + 1) = _ from if_pos (okTo_all c51)]; rfl) | (rw [show weekTo s (baseTo s k) k (j + 1) = _ from if_neg (okTo_not c51)]; rfl)), (by omega), (by omega)⟩
    · refine SX.exit ?_
      refine thenQ.exit ?_
      refine thenQ.exit ?_
      refine blockQ.exit ?_
      refine blockQ.normal ?_
      refine thenQ.normal ?_
      obtain rfl : j = s.most.toNat + 1 := by omega
      refine SX.region ?_
      refine SXL.move rfl ?_
      refine SXL.add rfl rfl (by omega) ?_
      refine SXL.assign rfl ?_
      refine SXL.nil ?_
      refine thenQ.normal ?_
      refine ⟨k + 1, Meets.mk _ ⟨rfl, trivial⟩ ⟨rfl, rfl, rfl, trivial⟩ rfl, (by omega), (by omega)⟩
  · refine SX.exit ?_
    refine thenQ.exit ?_
    refine thenQ.exit ?_
    refine blockQ.exit ?_
    refine thenQ.normal ?_
    refine SX.seq ?_
    refine SX.region ?_
    refine SXL.loadNo 2 sh_156 rfl rfl (takeAt_full (by simp only [length_ints, hB.len])) ?_
    refine SXL.store 1 sz_156 rfl rfl rfl rfl (by simp only [length_ints, hB.len]) (putAt_all _ _ (by simp only [length_ints, hB.len]; rfl)) ?_ (ints_isOne _)
    refine SXL.nil ?_
    refine thenQ.normal ?_
    refine SX.ret ?_
    refine retQ.one (ResAt.cellNo 1 sh_156 rfl rfl (takeAt_full (by simp only [length_ints, hB.len]))) ?_
    rw [show k = s.weeks.toNat by omega]; rfl
set_option maxHeartbeats 1000000 in
theorem leaves_any (s : Sp) (bo ro : Option Addr) (bc rc : Nat) (L : List Int) (hL : Bd L) (rain : Int) (hv : SpP s) (w : World) (hs : SpAt w s bo ro) :
    CallsR Tryd.prog 133 [.agg ⟨[.int .i64 s.weeks, .int .i64 s.most, .int .i64 s.fall, .int .i64 s.a0, .int .i64 s.a1, .int .i64 s.w0, .int .i64 s.w1, (.slice bo s.book.length bc), (.slice ro s.reads.length rc)]⟩, .agg ⟨ints L⟩, .int .i64 rain] w (fun v _ => v = .tuple ⟨[.agg ⟨ints (lvL s L rain)⟩, .bool (decide (lvB s L rain))]⟩) := by
  have hH := hv.1
  unfold HeadP at hH
  refine CallsR.of_SX (n := 143) (rs := [.cell 6 156, .tmp 7]) Tryd.func133 rfl rfl rfl rfl ?_
  show SX _ _ _ ⟨[(0, .agg ⟨[.int .i64 s.weeks, .int .i64 s.most, .int .i64 s.fall, .int .i64 s.a0, .int .i64 s.a1, .int .i64 s.w0, .int .i64 s.w1, (.slice bo s.book.length bc), (.slice ro s.reads.length rc)]⟩), (1, .agg ⟨ints L⟩), (2, .int .i64 rain)], [], []⟩
  refine SX.seq ?_
  refine SX.region ?_
  refine SXL.box rfl rfl ?_; intro b0
  refine SXL.box rfl rfl ?_; intro b1
  refine SXL.alloc zp_156 ?_; intro b2
  refine SXL.assign rfl ?_
  refine SXL.nil ?_
  refine thenQ.normal ?_
  refine SX.seq ?_
  refine SX.seq ?_
  refine SX.region ?_
  refine SXL.fieldAddr fp_27_5 rfl ?_
  refine SXL.load1o 0 sh_24 rfl rfl rfl ?_
  refine SXL.len is_24 rfl ?_
  refine SXL.move rfl ?_
  refine SXL.nil ?_
  refine thenQ.normal ?_
  refine SX.block ?_
  refine SX.loopG (α := Nat) [2, 3, 4, 6, 7, 14, 15] rfl (fun i => [(16, .int .i64 (i : Int))]) (fun i => [(1, (b1, .cells ⟨ints (linesTo s L rain i)⟩ 156 (0, 0)))]) (fun i => i ≤ s.book.length) (fun i => s.book.length - i) 0 (Nat.zero_le _) ⟨rfl, trivial⟩ rfl ?_
  rintro i hi
  have hM := hL.lines hv.2.1 hH.1 rain i
  refine SX.seq ?_
  refine SX.region ?_
  refine SXL.lss rfl rfl ?_
  refine SXL.nil ?_
  refine thenQ.normal ?_
  refine SX.seq ?_
  refine SX.condP rfl (fun c17 => ?_) (fun c17 => ?_)
  · refine SX.skip ?_
    refine thenQ.normal ?_
    refine SX.seq ?_
    refine SX.block ?_
    refine SX.seq ?_
    have hlt : i < s.book.length := by omega
    obtain ⟨b, o, ha, hm⟩ := hs.line hlt
    have hl := hv.2.1 i hlt
    refine SX.region ?_
    refine SXL.indexR el_24 rfl rfl ha (by omega) ?_
    refine SXL.loadN sh_61 rfl (hm _) rfl ?_
    refine SXL.alloc zp_61 ?_; intro b3
    refine SXL.store 3 sz_61 rfl rfl rfl rfl rfl rfl ?_
    refine SXL.nil ?_
    refine thenQ.normal ?_
    refine SX.seq ?_
    refine SX.region ?_
    refine SXL.move rfl ?_
    refine SXL.fieldAddr fp_61_0 rfl ?_
    refine SXL.fieldAddr fp_23_0 rfl ?_
    refine SXL.load1o 3 sh_3 rfl rfl rfl ?_
    refine SXL.fieldAddr fp_61_0 rfl ?_
    refine SXL.fieldAddr fp_23_1 rfl ?_
    refine SXL.load1o 3 sh_3 rfl rfl rfl ?_
    refine SXL.call1 (.bool (decide (Wi rain s.book[i].r0 s.book[i].r1))) fn_104 rfl (fun w hI => within_any _ _ _ _) ?_
    refine SXL.nil ?_
    refine thenQ.normal ?_
    refine SX.condP rfl (fun c27 => ?_) (fun c27 => ?_)
    · refine SX.draw 28 (by kernel_rfl) (by kernel_rfl) ⟨[2, 3, 13, 14, 18, 19, 20, 21, 22, 25, 26, 27], [true, false]⟩ ?_
      refine SXA.take 0 2 rfl (by kernel_rfl) rfl ?_
      refine SXL.fieldAddr fp_61_1 rfl ?_
      refine SXL.load1o 3 sh_3 rfl rfl rfl ?_
      refine SXL.nil ⟨rfl, rfl, rfl, ?_⟩
      refine SXA.takeM 2 2 rfl (by kernel_rfl) rfl ?_
      refine SXL.fieldAddr fp_61_1 rfl ?_
      refine SXL.load1o 2 sh_3 rfl rfl rfl ?_
      refine SXL.nil ⟨rfl, rfl, rfl, ?_⟩
      refine SXA.take 4 9 rfl (by kernel_rfl) rfl ?_
      refine SXL.fieldAddr fp_61_1 rfl ?_
      refine SXL.load1o 3 sh_3 rfl rfl rfl ?_
      refine SXL.fieldAddr fp_156_0 rfl ?_
      refine SXL.indexA el_154 rfl rfl (by omega) ?_
      refine SXL.load1o 1 sh_3 rfl rfl (ints_at (i := s.book[i].wk.toNat) (by omega) (by simp only [hM.len]; omega)) ?_
      refine SXL.fieldAddr fp_61_2 rfl ?_
      refine SXL.fieldAddr fp_23_0 rfl ?_
      refine SXL.load1o 3 sh_3 rfl rfl rfl ?_
      refine SXL.max rfl rfl ?_
      refine SXL.nil ⟨rfl, rfl, rfl, ?_⟩
      refine SXA.takeM 13 2 rfl (by kernel_rfl) rfl ?_
      refine SXL.fieldAddr fp_61_1 rfl ?_
      refine SXL.load1o 2 sh_3 rfl rfl rfl ?_
      refine SXL.nil ⟨rfl, rfl, rfl, ?_⟩
      refine SXA.take 15 3 rfl (by kernel_rfl) rfl ?_
      refine SXL.fieldAddr fp_156_1 rfl ?_
      refine SXL.indexA el_154 rfl rfl (by omega) ?_
      refine SXL.load1o 1 sh_3 rfl rfl (ints_at (i := 10 + s.book[i].wk.toNat) (by omega) (by simp only [hM.len]; omega)) ?_
      refine SXL.nil ⟨rfl, rfl, rfl, ?_⟩
      refine SXA.takeM 18 5 rfl (by kernel_rfl) rfl ?_
      refine SXL.fieldAddr fp_61_2 rfl ?_
      refine SXL.fieldAddr fp_23_1 rfl ?_
      refine SXL.load1o 2 sh_3 rfl rfl rfl ?_
      refine SXL.min rfl rfl ?_
      refine SXL.fieldAddr fp_156_0 rfl ?_
      refine SXL.nil ⟨rfl, rfl, rfl, ?_⟩
      refine SXA.take 23 1 rfl (by kernel_rfl) rfl ?_
      refine SXL.indexA el_154 rfl rfl (by omega) ?_
      refine SXL.nil ⟨rfl, rfl, rfl, ?_⟩
      refine SXA.takeM 25 1 rfl (by kernel_rfl) rfl ?_
      refine SXL.fieldAddr fp_156_1 rfl ?_
      refine SXL.nil ⟨rfl, rfl, rfl, ?_⟩
      refine SXA.all [24] (by kernel_rfl) rfl ⟨⟨?_, rfl⟩, trivial⟩
      refine (show SXL _ _ [_] _ _ from ?_)
      refine SXL.store 1 sz_3 rfl rfl rfl rfl rfl (ints_put (i := s.book[i].wk.toNat) (by omega) (by simp only [hM.len]; omega)) ?_
      refine SXL.nil (stepQ.mkL _ (by kernel_rfl) rfl rfl ?_)
      refine SXA.takeM 26 1 rfl (by kernel_rfl) rfl ?_
      refine SXL.indexA el_154 rfl rfl (by omega) ?_
      refine SXL.nil ⟨rfl, rfl, rfl, ?_⟩
      refine SXA.all [27] (by kernel_rfl) rfl ⟨⟨?_, rfl⟩, trivial⟩
      refine (show SXL _ _ [_] _ _ from ?_)
      refine SXL.store 1 sz_3 rfl rfl rfl rfl rfl (ints_put (i := 10 + s.book[i].wk.toNat) (by omega) (by simp only [List.length_set, hM.len]; omega)) ?_
      refine SXL.nil (stepQ.mkL _ (by kernel_rfl) rfl rfl ?_)
      refine SXA.done (by kernel_rfl) ?_
      refine SXL.nil ?_
      refine blockQ.normal ?_
      refine thenQ.normal ?_
      refine SX.region ?_
      refine SXL.add rfl rfl (by omega) ?_
      refine SXL.move rfl ?_
      refine SXL.nil ?_
      refine thenQ.normal ?_
      refine ⟨i + 1, Meets.mk _ ⟨rfl, trivial⟩ ⟨rfl, rfl, rfl, rfl, rfl, rfl, rfl, trivial⟩ (by first | (rw [linesTo_yes rain hlt c27]; rfl) | (rw [linesTo_no rain hlt c27]; rfl)), (by omega), (by omega)⟩
    · refine SX.skip ?_
      refine blockQ.normal ?_
      refine thenQ.normal ?_
      refine SX.region ?_
      refine SXL.add rfl rfl (by omega) ?_
      refine SXL.move rfl ?_
      refine SXL.nil ?_
      refine thenQ.normal ?_
      refine ⟨i + 1, Meets.mk _ ⟨rfl, trivial⟩ ⟨rfl, rfl, rfl, rfl, rfl, rfl, rfl, trivial⟩ (by first | (rw [linesTo_yes rain hlt c27]; rfl) | (rw [linesTo_no rain hlt c27]; rfl)), (by omega), (by omega)⟩
  · refine SX.exit ?_
    refine thenQ.exit ?_
    refine thenQ.exit ?_
    refine blockQ.exit ?_
    refine thenQ.normal ?_
    refine SX.seq ?_
    refine SX.seq ?_
    obtain rfl : i = s.book.length := by omega
    refine SX.region ?_
    refine SXL.assign rfl ?_
    refine SXL.nil ?_
    refine thenQ.normal ?_
    refine SX.block ?_
    refine SX.loopG (α := Nat) [3, 4, 6, 7] rfl (fun j => [(10, .int .i64 ((j : Int) + 1))]) (fun j => [(1, (b1, .cells ⟨ints (fwdTo s.fall (linesTo s L rain s.book.length) j)⟩ 156 (0, 0)))]) (fun j => j ≤ s.weeks.toNat - 1) (fun j => s.weeks.toNat - 1 - j) 0 (Nat.zero_le _) ⟨rfl, trivial⟩ rfl ?_
    rintro j hj
    have hF := hM.fwd hH.2.2.1 j (by omega)
    have g1 := hF.2 j (by omega)
    refine SX.seq ?_
    refine SX.seq ?_
    refine SX.region ?_
    refine SXL.move rfl ?_
    refine SXL.fieldAddr fp_27_0 rfl ?_
    refine SXL.load1o 0 sh_3 rfl rfl rfl ?_
    refine SXL.lss rfl rfl ?_
    refine SXL.nil ?_
    refine thenQ.normal ?_
    refine SX.condP rfl (fun c58 => ?_) (fun c58 => ?_)
    · refine SX.skip ?_
      refine thenQ.normal ?_
      refine SX.seq ?_
      refine SX.block ?_
      have g2 := hF.2 (j + 1) (by omega)
      have g3 := hF.2 (10 + j) (by omega)
      have g4 := hF.2 (10 + (j + 1)) (by omega)
      refine SX.draw 31 (by kernel_rfl) (by kernel_rfl) ⟨[1, 15, 19, 20, 24, 25, 28, 29, 30], [true, false]⟩ ?_
      refine SXA.take 0 1 rfl (by kernel_rfl) rfl ?_
      refine SXL.move rfl ?_
      refine SXL.nil ⟨rfl, rfl, rfl, ?_⟩
      refine SXA.takeM 1 1 rfl (by kernel_rfl) rfl ?_
      refine SXL.move rfl ?_
      refine SXL.nil ⟨rfl, rfl, rfl, ?_⟩
      refine SXA.take 2 13 rfl (by kernel_rfl) rfl ?_
      refine SXL.move rfl ?_
      refine SXL.fieldAddr fp_156_0 rfl ?_
      refine SXL.indexA el_154 rfl rfl (by omega) ?_
      refine SXL.load1o 1 sh_3 rfl rfl (ints_at (i := j + 1) (by omega) (by simp only [hF.len]; omega)) ?_
      refine SXL.move rfl ?_
      refine SXL.sub rfl rfl (by omega) ?_
      refine SXL.fieldAddr fp_156_0 rfl ?_
      refine SXL.indexA el_154 rfl rfl (by omega) ?_
      refine SXL.load1o 1 sh_3 rfl rfl (ints_at (i := j) (by omega) (by simp only [hF.len]; omega)) ?_
      refine SXL.fieldAddr fp_27_2 rfl ?_
      refine SXL.load1o 0 sh_3 rfl rfl rfl ?_
      refine SXL.sub rfl rfl (by omega) ?_
      refine SXL.max rfl rfl ?_
      refine SXL.nil ⟨rfl, rfl, rfl, ?_⟩
      refine SXA.takeM 15 1 rfl (by kernel_rfl) rfl ?_
      refine SXL.move rfl ?_
      refine SXL.nil ⟨rfl, rfl, rfl, ?_⟩
      refine SXA.take 16 3 rfl (by kernel_rfl) rfl ?_
      refine SXL.fieldAddr fp_156_1 rfl ?_
      refine SXL.indexA el_154 rfl rfl (by omega) ?_
      refine SXL.load1o 1 sh_3 rfl rfl (ints_at (i := 10 + (j + 1)) (by omega) (by simp only [hF.len]; omega)) ?_
      refine SXL.nil ⟨rfl, rfl, rfl, ?_⟩
      refine SXA.takeM 19 2 rfl (by kernel_rfl) rfl ?_
      refine SXL.move rfl ?_
      refine SXL.sub rfl rfl (by omega) ?_
      refine SXL.nil ⟨rfl, rfl, rfl, ?_⟩
      refine SXA.take 21 3 rfl (by kernel_rfl) rfl ?_
      refine SXL.fieldAddr fp_156_1 rfl ?_
      refine SXL.indexA el_154 rfl rfl (by omega) ?_
      refine SXL.load1o 1 sh_3 rfl rfl (ints_at (i := 10 + j) (by omega) (by simp only [hF.len]; omega)) ?_
      refine SXL.nil ⟨rfl, rfl, rfl, ?_⟩
      refine SXA.takeM 24 2 rfl (by kernel_rfl) rfl ?_
      refine SXL.min rfl rfl ?_
      refine SXL.fieldAddr fp_156_0 rfl ?_
      refine SXL.nil ⟨rfl, rfl, rfl, ?_⟩
      refine SXA.take 26 1 rfl (by kernel_rfl) rfl ?_
      refine SXL.indexA el_154 rfl rfl (by omega) ?_
      refine SXL.nil ⟨rfl, rfl, rfl, ?_⟩
      refine SXA.takeM 28 1 rfl (by kernel_rfl) rfl ?_
      refine SXL.fieldAddr fp_156_1 rfl ?_
      refine SXL.nil ⟨rfl, rfl, rfl, ?_⟩
      refine SXA.all [27] (by kernel_rfl) rfl ⟨⟨?_, rfl⟩, trivial⟩
      refine (show SXL _ _ [_] _ _ from ?_)
      refine SXL.store 1 sz_3 rfl rfl rfl rfl rfl (ints_put (i := j + 1) (by omega) (by simp only [hF.len]; omega)) ?_
      refine SXL.nil (stepQ.mkL _ (by kernel_rfl) rfl rfl ?_)
      refine SXA.takeM 29 1 rfl (by kernel_rfl) rfl ?_
      refine SXL.indexA el_154 rfl rfl (by omega) ?_
      refine SXL.nil ⟨rfl, rfl, rfl, ?_⟩
      refine SXA.all [30] (by kernel_rfl) rfl ⟨⟨?_, rfl⟩, trivial⟩
      refine (show SXL _ _ [_] _ _ from ?_)
      refine SXL.store 1 sz_3 rfl rfl rfl rfl rfl (ints_put (i := 10 + (j + 1)) (by omega) (by simp only [List.length_set, hF.len]; omega)) ?_
      refine SXL.nil (stepQ.mkL _ (by kernel_rfl) rfl rfl ?_)
      refine SXA.done (by kernel_rfl) ?_
      refine SXL.nil ?_
      refine blockQ.normal ?_
      refine thenQ.normal ?_
      refine SX.region ?_
      refine SXL.move rfl ?_
      refine SXL.add rfl rfl (by omega) ?_
      refine SXL.assign rfl ?_
      refine SXL.nil ?_
      refine thenQ.normal ?_
      refine ⟨j + 1, Meets.mk _ ⟨rfl, trivial⟩ ⟨rfl, rfl, rfl, rfl, trivial⟩ rfl, (by omega), (by omega)⟩
    · refine SX.exit ?_
      refine thenQ.exit ?_
      refine thenQ.exit ?_
      refine blockQ.exit ?_
      refine thenQ.normal ?_
      refine SX.seq ?_
      refine SX.seq ?_
      obtain rfl : j = s.weeks.toNat - 1 := by omega
      refine SX.region ?_
      refine SXL.fieldAddr fp_27_0 rfl ?_
      refine SXL.load1o 0 sh_3 rfl rfl rfl ?_
      refine SXL.sub rfl rfl (by omega) ?_
      refine SXL.assign rfl ?_
      refine SXL.nil ?_
      refine thenQ.normal ?_
      refine SX.block ?_
      refine SX.loopG (α := Nat) [3, 4, 6, 7] rfl (fun j => [(11, .int .i64 (s.weeks - 2 - (j : Int)))]) (fun j => [(1, (b1, .cells ⟨ints (bwdTo s.fall (s.weeks.toNat - 1) (fwdTo s.fall (linesTo s L rain s.book.length) (s.weeks.toNat - 1)) j)⟩ 156 (0, 0)))]) (fun j => j ≤ s.weeks.toNat - 1) (fun j => s.weeks.toNat - 1 - j) 0 (Nat.zero_le _) ⟨congrArg (fun z => some (Value.int .i64 z)) (show s.weeks - 2 = s.weeks - 2 - ((0 : Nat) : Int) by omega), trivial⟩ rfl ?_
      rintro j hj
      have hW := hF.bwd (n := s.weeks.toNat - 1) hH.2.2.1 (by omega) j (by omega)
      refine SX.seq ?_
      refine SX.seq ?_
      refine SX.region ?_
      refine SXL.move rfl ?_
      refine SXL.geq rfl rfl ?_
      refine SXL.nil ?_
      refine thenQ.normal ?_
      refine SX.condP rfl (fun c94 => ?_) (fun c94 => ?_)
      · refine SX.skip ?_
        refine thenQ.normal ?_
        refine SX.seq ?_
        refine SX.block ?_
        have hw8 : s.weeks.toNat - 1 - 1 - j ≤ 8 := by omega
        have g1 := hW.2 (s.weeks.toNat - 1 - 1 - j) (by omega)
        have g2 := hW.2 (s.weeks.toNat - 1 - 1 - j + 1) (by omega)
        have g3 := hW.2 (10 + (s.weeks.toNat - 1 - 1 - j)) (by omega)
        have g4 := hW.2 (10 + (s.weeks.toNat - 1 - 1 - j + 1)) (by omega)
        refine SX.draw 31 (by kernel_rfl) (by kernel_rfl) ⟨[1, 12, 16, 17, 21, 22, 23, 24, 25, 28, 29, 30], [true, false]⟩ ?_
        refine SXA.take 0 1 rfl (by kernel_rfl) rfl ?_
        refine SXL.move rfl ?_
        refine SXL.nil ⟨rfl, rfl, rfl, ?_⟩
        refine SXA.takeM 1 1 rfl (by kernel_rfl) rfl ?_
        refine SXL.move rfl ?_
        refine SXL.nil ⟨rfl, rfl, rfl, ?_⟩
        refine SXA.take 2 10 rfl (by kernel_rfl) rfl ?_
        refine SXL.move rfl ?_
        refine SXL.fieldAddr fp_156_0 rfl ?_
        refine SXL.indexA el_154 rfl rfl (by omega) ?_
        refine SXL.load1o 1 sh_3 rfl rfl (ints_at (i := s.weeks.toNat - 1 - 1 - j) (by omega) (by simp only [hW.len]; omega)) ?_
        refine SXL.move rfl ?_
        refine SXL.add rfl rfl (by omega) ?_
        refine SXL.fieldAddr fp_156_0 rfl ?_
        refine SXL.indexA el_154 rfl rfl (by omega) ?_
        refine SXL.load1o 1 sh_3 rfl rfl (ints_at (i := s.weeks.toNat - 1 - 1 - j + 1) (by omega) (by simp only [hW.len]; omega)) ?_
        refine SXL.max rfl rfl ?_
        refine SXL.nil ⟨rfl, rfl, rfl, ?_⟩
        refine SXA.takeM 12 1 rfl (by kernel_rfl) rfl ?_
        refine SXL.move rfl ?_
        refine SXL.nil ⟨rfl, rfl, rfl, ?_⟩
        refine SXA.take 13 3 rfl (by kernel_rfl) rfl ?_
        refine SXL.fieldAddr fp_156_1 rfl ?_
        refine SXL.indexA el_154 rfl rfl (by omega) ?_
        refine SXL.load1o 1 sh_3 rfl rfl (ints_at (i := 10 + (s.weeks.toNat - 1 - 1 - j)) (by omega) (by simp only [hW.len]; omega)) ?_
        refine SXL.nil ⟨rfl, rfl, rfl, ?_⟩
        refine SXA.takeM 16 2 rfl (by kernel_rfl) rfl ?_
        refine SXL.move rfl ?_
        refine SXL.add rfl rfl (by omega) ?_
        refine SXL.nil ⟨rfl, rfl, rfl, ?_⟩
        refine SXA.take 18 3 rfl (by kernel_rfl) rfl ?_
        refine SXL.fieldAddr fp_156_1 rfl ?_
        refine SXL.indexA el_154 rfl rfl (by omega) ?_
        refine SXL.load1o 1 sh_3 rfl rfl (ints_at (i := 10 + (s.weeks.toNat - 1 - 1 - j + 1)) (by omega) (by simp only [hW.len]; omega)) ?_
        refine SXL.nil ⟨rfl, rfl, rfl, ?_⟩
        refine SXA.takeM 21 5 rfl (by kernel_rfl) rfl ?_
        refine SXL.fieldAddr fp_27_2 rfl ?_
        refine SXL.load1o 0 sh_3 rfl rfl rfl ?_
        refine SXL.add rfl rfl (by omega) ?_
        refine SXL.min rfl rfl ?_
        refine SXL.fieldAddr fp_156_0 rfl ?_
        refine SXL.nil ⟨rfl, rfl, rfl, ?_⟩
        refine SXA.take 26 1 rfl (by kernel_rfl) rfl ?_
        refine SXL.indexA el_154 rfl rfl (by omega) ?_
        refine SXL.nil ⟨rfl, rfl, rfl, ?_⟩
        refine SXA.takeM 28 1 rfl (by kernel_rfl) rfl ?_
        refine SXL.fieldAddr fp_156_1 rfl ?_
        refine SXL.nil ⟨rfl, rfl, rfl, ?_⟩
        refine SXA.all [27] (by kernel_rfl) rfl ⟨⟨?_, rfl⟩, trivial⟩
        refine (show SXL _ _ [_] _ _ from ?_)
        refine SXL.store 1 sz_3 rfl rfl rfl rfl rfl (ints_put (i := s.weeks.toNat - 1 - 1 - j) (by omega) (by simp only [hW.len]; omega)) ?_
        refine SXL.nil (stepQ.mkL _ (by kernel_rfl) rfl rfl ?_)
        refine SXA.takeM 29 1 rfl (by kernel_rfl) rfl ?_
        refine SXL.indexA el_154 rfl rfl (by omega) ?_
        refine SXL.nil ⟨rfl, rfl, rfl, ?_⟩
        refine SXA.all [30] (by kernel_rfl) rfl ⟨⟨?_, rfl⟩, trivial⟩
        refine (show SXL _ _ [_] _ _ from ?_)
        refine SXL.store 1 sz_3 rfl rfl rfl rfl rfl (ints_put (i := 10 + (s.weeks.toNat - 1 - 1 - j)) (by omega) (by simp only [List.length_set, hW.len]; omega)) ?_
        refine SXL.nil (stepQ.mkL _ (by kernel_rfl) rfl rfl ?_)
        refine SXA.done (by kernel_rfl) ?_
        refine SXL.nil ?_
        refine blockQ.normal ?_
        refine thenQ.normal ?_
        refine SX.region ?_
        refine SXL.move rfl ?_
        refine SXL.sub rfl rfl (by omega) ?_
        refine SXL.assign rfl ?_
        refine SXL.nil ?_
        refine thenQ.normal ?_
        refine ⟨j + 1, Meets.mk _ ⟨congrArg (fun z => some (Value.int .i64 z)) (show s.weeks - 2 - (j : Int) - 1 = s.weeks - 2 - ((j + 1 : Nat) : Int) by omega), trivial⟩ ⟨rfl, rfl, rfl, rfl, trivial⟩ rfl, (by omega), (by omega)⟩
      · refine SX.exit ?_
        refine thenQ.exit ?_
        refine thenQ.exit ?_
        refine blockQ.exit ?_
        refine thenQ.normal ?_
        refine SX.seq ?_
        refine SX.seq ?_
        obtain rfl : j = s.weeks.toNat - 1 := by omega
        refine SX.region ?_
        refine SXL.assign rfl ?_
        refine SXL.nil ?_
        refine thenQ.normal ?_
        refine SX.block ?_
        refine SX.loopG (α := Nat) [3, 4, 6, 7] rfl (fun i => [(12, .int .i64 (i : Int))]) (fun i => []) (fun i => i ≤ s.weeks.toNat ∧ ∀ w, w < i → G (lvL s L rain) w ≤ G (lvL s L rain) (10 + w)) (fun i => s.weeks.toNat - i) 0 ⟨Nat.zero_le _, fun _ h => absurd h (Nat.not_lt_zero _)⟩ ⟨rfl, trivial⟩ rfl ?_
        rintro i ⟨hi2, hall⟩
        refine SX.seq ?_
        refine SX.seq ?_
        refine SX.region ?_
        refine SXL.move rfl ?_
        refine SXL.fieldAddr fp_27_0 rfl ?_
        refine SXL.load1o 0 sh_3 rfl rfl rfl ?_
        refine SXL.lss rfl rfl ?_
        refine SXL.nil ?_
        refine thenQ.normal ?_
        refine SX.condP rfl (fun c129 => ?_) (fun c129 => ?_)
        · refine SX.skip ?_
          refine thenQ.normal ?_
          refine SX.seq ?_
          refine SX.block ?_
          refine SX.seq ?_
          refine SX.draw 9 (by kernel_rfl) (by kernel_rfl) {} ?_
          refine SXA.take 0 9 rfl (by kernel_rfl) rfl ?_
          refine SXL.move rfl ?_
          refine SXL.fieldAddr fp_156_0 rfl ?_
          refine SXL.indexA el_154 rfl rfl (by omega) ?_
          refine SXL.load1o 1 sh_3 rfl rfl (ints_at (i := i) (by omega) (by simp only [hW.len]; omega)) ?_
          refine SXL.move rfl ?_
          refine SXL.fieldAddr fp_156_1 rfl ?_
          refine SXL.indexA el_154 rfl rfl (by omega) ?_
          refine SXL.load1o 1 sh_3 rfl rfl (ints_at (i := 10 + i) (by omega) (by simp only [hW.len]; omega)) ?_
          refine SXL.gtr rfl rfl ?_
          refine SXL.nil ⟨rfl, rfl, rfl, ?_⟩
          refine SXA.done (by kernel_rfl) ?_
          refine SXL.nil ?_
          refine thenQ.normal ?_
          refine SX.condP rfl (fun c140 => ?_) (fun c140 => ?_)
          · refine SX.seq ?_
            refine SX.region ?_
            refine SXL.loadNo 1 sh_156 rfl rfl (takeAt_full (by simp only [length_ints, hW.len])) ?_
            refine SXL.store 2 sz_156 rfl rfl rfl rfl (by simp only [length_ints, hW.len]) (putAt_all _ _ (by simp only [length_ints, hW.len]; rfl)) ?_ (ints_isOne _)
            refine SXL.assign rfl ?_
            refine SXL.nil ?_
            refine thenQ.normal ?_
            refine SX.ret ?_
            refine blockQ.ret ?_
            refine thenQ.ret ?_
            refine thenQ.ret ?_
            refine blockQ.ret ?_
            refine thenQ.ret ?_
            refine retQ.two (ResAt.cellNo 2 sh_156 rfl rfl (takeAt_full (by simp only [length_ints, hW.len]))) (ResAt.tmp rfl) ?_
            rw [decide_eq_false (p := lvB s L rain) (fun h => absurd (h i (by omega)) (Int.not_le.2 c140))]; rfl
          · refine SX.skip ?_
            refine blockQ.normal ?_
            refine thenQ.normal ?_
            refine SX.region ?_
            refine SXL.move rfl ?_
            refine SXL.add rfl rfl (by omega) ?_
            refine SXL.assign rfl ?_
            refine SXL.nil ?_
            refine thenQ.normal ?_
            refine ⟨i + 1, Meets.mk _ ⟨rfl, trivial⟩ ⟨rfl, rfl, rfl, rfl, trivial⟩ rfl, ?_, (by omega)⟩
            refine ⟨by omega, fun w hw => ?_⟩
            by_cases e : w = i
            · subst e; exact Int.not_lt.1 c140
            · exact hall w (by omega)
        · refine SX.exit ?_
          refine thenQ.exit ?_
          refine thenQ.exit ?_
          refine blockQ.exit ?_
          refine thenQ.normal ?_
          refine SX.seq ?_
          refine SX.region ?_
          refine SXL.loadNo 1 sh_156 rfl rfl (takeAt_full (by simp only [length_ints, hW.len])) ?_
          refine SXL.store 2 sz_156 rfl rfl rfl rfl (by simp only [length_ints, hW.len]) (putAt_all _ _ (by simp only [length_ints, hW.len]; rfl)) ?_ (ints_isOne _)
          refine SXL.assign rfl ?_
          refine SXL.nil ?_
          refine thenQ.normal ?_
          refine SX.ret ?_
          refine retQ.two (ResAt.cellNo 2 sh_156 rfl rfl (takeAt_full (by simp only [length_ints, hW.len]))) (ResAt.tmp rfl) ?_
          rw [decide_eq_true (p := lvB s L rain) (fun w hw => hall w (by omega))]; rfl
end Go.Proofs.YtknflipongbngaaDoor
