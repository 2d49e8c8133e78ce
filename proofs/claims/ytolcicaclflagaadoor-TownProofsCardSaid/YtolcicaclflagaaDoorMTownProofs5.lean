/- Texts of the proof, merged: R2, R3, R4, V1, V2, V4, T12, XIns, V5. -/
import Derived.Test.YtolcicaclflagaaDoorMTownProofs4
import GoSem.Claim
import Derived.Lib.Overlaps
import Derived.Lib.AppendZeros
/- The walks of functions. -/
namespace Go.Proofs.YtolcicaclflagaaDoor
open Go.X Go.S
theorem linesTo_yes {s : Sp} {L : List Int} (rain : Int) {i : Nat} (h : i < s.book.length) (hc : Wi rain s.book[i].r0 s.book[i].r1) :
    linesTo s L rain (i + 1) = ((linesTo s L rain i).set s.book[i].wk.toNat (max (G (linesTo s L rain i) s.book[i].wk.toNat) s.book[i].g0)).set (10 + s.book[i].wk.toNat) (min (G (linesTo s L rain i) (10 + s.book[i].wk.toNat)) s.book[i].g1) := by
  simp only [linesTo, List.getElem?_eq_getElem h, lineStep, if_pos hc]
theorem linesTo_no {s : Sp} {L : List Int} (rain : Int) {i : Nat} (h : i < s.book.length) (hc : ¬Wi rain s.book[i].r0 s.book[i].r1) : linesTo s L rain (i + 1) = linesTo s L rain i := by
  simp only [linesTo, List.getElem?_eq_getElem h, lineStep, if_neg hc]
theorem okTo_zero (s : Sp) (w : Nat) (n : Int) : OkTo s w n 0 := fun _ hi => absurd hi (Nat.not_lt_zero _)
theorem okTo_succ {s : Sp} {w : Nat} {n : Int} {i : Nat} (hlt : i < s.reads.length) : (OkTo s w n i ∧ (s.reads[i].wk ≠ w ∨ Right s s.reads[i] n)) ↔ OkTo s w n (i + 1) := by
  constructor
  · rintro ⟨h1, h2⟩ k hk h
    by_cases e : k = i
    · subst e; exact h2
    · exact h1 k (by omega) h
  · intro h
    exact ⟨fun k hk h' => h k (by omega) h', h i (by omega) hlt⟩
theorem okTo_all {s : Sp} {w : Nat} {n : Int} (h : OkTo s w n s.reads.length) : OkP s w n := fun i hi => h i hi hi
theorem okTo_not {s : Sp} {w : Nat} {n : Int} (h : ¬OkTo s w n s.reads.length) : ¬OkP s w n := fun g => h fun i _ hi => g i hi
theorem base_any (s : Sp) (bo ro : Option Addr) (bc rc : Nat) (hv : SpP s) (w : World) (hs : SpAt w s bo ro) :
    CallsR Tryd.prog 111 [.agg ⟨[.int .i64 s.weeks, .int .i64 s.most, .int .i64 s.fall, .int .i64 s.a0, .int .i64 s.a1, .int .i64 s.w0, .int .i64 s.w1, (.slice bo s.book.length bc), (.slice ro s.reads.length rc)]⟩] w (fun v _ => v = .agg ⟨ints (baseL s)⟩) := by
  have hH := hv.1
  unfold HeadP at hH
  refine CallsR.of_SX (n := 66) (rs := [.cell 2 155]) Tryd.func111 rfl rfl rfl rfl ?_
  show SX _ _ _ ⟨[(0, .agg ⟨[.int .i64 s.weeks, .int .i64 s.most, .int .i64 s.fall, .int .i64 s.a0, .int .i64 s.a1, .int .i64 s.w0, .int .i64 s.w1, (.slice bo s.book.length bc), (.slice ro s.reads.length rc)]⟩)], [], []⟩
  refine SX.seq ?_
  refine SX.region ?_
  refine SXL.box rfl rfl ?_; intro b0
  refine SXL.alloc zp_155 ?_; intro b1
  refine SXL.nil ?_
  refine thenQ.normal ?_
  refine SX.seq ?_
  refine SX.region ?_
  refine SXL.alloc zp_155 ?_; intro b2
  refine SXL.nil ?_
  refine thenQ.normal ?_
  refine SX.seq ?_
  refine SX.seq ?_
  refine SX.region ?_
  refine SXL.assign rfl ?_
  refine SXL.nil ?_
  refine thenQ.normal ?_
  refine SX.block ?_
  refine SX.loopG (α := Nat) [1, 2, 3] rfl (fun k => [(4, .int .i64 (k : Int))]) (fun k => [(2, (b2, .cells ⟨ints (baseTo s k)⟩ 155 (0, 0)))]) (fun k => k ≤ s.weeks.toNat) (fun k => s.weeks.toNat - k) 0 (Nat.zero_le _) ⟨rfl, trivial⟩ rfl ?_
  rintro k hk
  have hB := Bd.base (s := s) hH.2.1 k (by omega)
  refine SX.seq ?_
  refine SX.seq ?_
  refine SX.region ?_
  refine SXL.move rfl ?_
  refine SXL.fieldAddr fp_68_0 rfl ?_
  refine SXL.load1o 0 sh_3 rfl rfl rfl ?_
  refine SXL.lss rfl rfl ?_
  refine SXL.nil ?_
  refine thenQ.normal ?_
  refine SX.condP rfl (fun c12 => ?_) (fun c12 => ?_)
  · refine SX.skip ?_
    refine thenQ.normal ?_
    refine SX.seq ?_
    refine SX.block ?_
    refine SX.seq ?_
    refine SX.region ?_
    refine SXL.move rfl ?_
    refine SXL.move rfl ?_
    refine SXL.fieldAddr fp_68_1 rfl ?_
    refine SXL.load1o 0 sh_3 rfl rfl rfl ?_
    refine SXL.add rfl rfl (by omega) ?_
    refine SXL.fieldAddr fp_155_0 rfl ?_
    refine SXL.indexA el_153 rfl rfl (by omega) ?_
    refine SXL.store 2 sz_3 rfl rfl rfl rfl rfl (ints_put (i := k) (by omega) (by simp only [hB.len]; omega)) ?_
    refine SXL.fieldAddr fp_155_1 rfl ?_
    refine SXL.indexA el_153 rfl rfl (by omega) ?_
    refine SXL.store 2 sz_3 rfl rfl rfl rfl rfl (ints_put (i := 10 + k) (by omega) (by simp only [List.length_set, hB.len]; omega)) ?_
    refine SXL.nil ?_
    refine thenQ.normal ?_
    refine SX.seq ?_
    refine SX.region ?_
    refine SXL.assign rfl ?_
    refine SXL.nil ?_
    refine thenQ.normal ?_
    refine SX.block ?_
    refine SX.loopG (α := Nat) [1, 2, 3, 4] rfl (fun j => [(5, .int .i64 (j : Int))]) (fun j => [(2, (b2, .cells ⟨ints (weekTo s (baseTo s k) k j)⟩ 155 (0, 0)))]) (fun j => j ≤ s.most.toNat + 1) (fun j => s.most.toNat + 1 - j) 0 (Nat.zero_le _) ⟨rfl, trivial⟩ rfl ?_
    rintro j hj
    have hBj := Bd.week (s := s) hB hH.2.1 (w := k) (by omega) j (by omega)
    refine SX.seq ?_
    refine SX.seq ?_
    refine SX.region ?_
    refine SXL.move rfl ?_
    refine SXL.fieldAddr fp_68_1 rfl ?_
    refine SXL.load1o 0 sh_3 rfl rfl rfl ?_
    refine SXL.leq rfl rfl ?_
    refine SXL.nil ?_
    refine thenQ.normal ?_
    refine SX.condP rfl (fun c27 => ?_) (fun c27 => ?_)
    · refine SX.skip ?_
      refine thenQ.normal ?_
      refine SX.seq ?_
      refine SX.block ?_
      refine SX.seq ?_
      refine SX.region ?_
      refine SXL.assign rfl ?_
      refine SXL.nil ?_
      refine thenQ.normal ?_
      refine SX.seq ?_
      refine SX.seq ?_
      refine SX.region ?_
      refine SXL.fieldAddr fp_68_6 rfl ?_
      refine SXL.load1o 0 sh_66 rfl rfl rfl ?_
      refine SXL.len is_66 rfl ?_
      refine SXL.move rfl ?_
      refine SXL.nil ?_
      refine thenQ.normal ?_
      refine SX.block ?_
      refine SX.loopG (α := Nat) [1, 2, 3, 4, 5, 31, 32] rfl (fun i => [(33, .int .i64 (i : Int)), (6, .bool (decide (OkTo s k (j : Int) i)))]) (fun i => []) (fun i => i ≤ s.reads.length) (fun i => s.reads.length - i) 0 (Nat.zero_le _) ⟨rfl, (congrArg (fun b => some (Value.bool b)) (decide_eq_true (okTo_zero s k j)).symm), trivial⟩ rfl ?_
      rintro i hi
      refine SX.seq ?_
      refine SX.region ?_
      refine SXL.lss rfl rfl ?_
      refine SXL.nil ?_
      refine thenQ.normal ?_
      refine SX.seq ?_
      refine SX.condP rfl (fun c34 => ?_) (fun c34 => ?_)
      · refine SX.skip ?_
        refine thenQ.normal ?_
        refine SX.seq ?_
        refine SX.block ?_
        refine SX.seq ?_
        have hlt : i < s.reads.length := by omega
        obtain ⟨b, o, ha, hm⟩ := hs.read hlt
        have hR := (hv.2.2 i hlt).1
        refine SX.region ?_
        refine SXL.indexR el_66 rfl rfl ha (by omega) ?_
        refine SXL.loadN sh_131 rfl (hm _) rfl ?_
        refine SXL.alloc zp_131 ?_; intro b3
        refine SXL.store 3 sz_131 rfl rfl rfl rfl rfl rfl ?_
        refine SXL.nil ?_
        refine thenQ.normal ?_
        refine SX.region ?_
        refine SXL.move rfl ?_
        refine SXL.move rfl ?_
        apply SXL.andG 10
        case hl => exact rfl
        case hd => exact rfl
        case hg => exact rfl
        case ht =>
          intro g4
          refine SXL.fieldAddr fp_131_1 rfl ?_
          refine SXL.load1o 3 sh_3 rfl rfl rfl ?_
          refine SXL.move rfl ?_
          refine SXL.neqI rfl rfl ?_
          refine SXL.move rfl ?_
          apply SXL.orG 4
          case hl => exact rfl
          case hd => exact rfl
          case hg => exact rfl
          case ht =>
            intro g5
            refine SXL.pass rfl rfl rfl ?_
            refine SXL.pass rfl rfl rfl ?_
            refine SXL.pass rfl rfl rfl ?_
            refine SXL.pass rfl rfl rfl ?_
            exact SXL.nil (segQ.mk (.skip rfl (.skip rfl (.skip rfl (.skip rfl (.skip rfl (EnvSub.refl _)))))) rfl rfl rfl)
          case hf =>
            intro g5
            refine SXL.loadNo 0 sh_68 rfl rfl rfl ?_
            refine SXL.loadNo 3 sh_131 rfl rfl rfl ?_
            refine SXL.move rfl ?_
            refine SXL.call1 (.bool (decide (Right s s.reads[i] (j : Int)))) fn_117 rfl (fun w hI => right_any s bo ro bc rc _ _ (by omega) (by omega) (by omega) (by omega) _) ?_
            exact SXL.nil (segQ.mk (.skip rfl (.skip rfl (.skip rfl (.skip rfl (.skip rfl (EnvSub.refl _)))))) rfl rfl ⟨rfl, rfl⟩)
          exact SXL.nil (segQ.mk (.skip rfl (.skip rfl (.skip rfl (.skip rfl (.skip rfl (.skip rfl (EnvSub.refl _))))))) rfl rfl ⟨rfl, rfl⟩)
        case hf =>
          intro g4
          refine SXL.pass rfl rfl rfl ?_
          refine SXL.pass rfl rfl rfl ?_
          refine SXL.pass rfl rfl rfl ?_
          refine SXL.pass rfl rfl rfl ?_
          refine SXL.pass rfl rfl rfl ?_
          refine SXL.pass rfl rfl rfl ?_
          refine SXL.pass rfl rfl rfl ?_
          refine SXL.pass rfl rfl rfl ?_
          refine SXL.pass rfl rfl rfl ?_
          refine SXL.pass rfl rfl rfl ?_
          exact SXL.nil (segQ.mk (.skip rfl (.skip rfl (.skip rfl (.skip rfl (.skip rfl (.skip rfl (.skip rfl (.skip rfl (.skip rfl (.skip rfl (.skip rfl (EnvSub.refl _)))))))))))) rfl rfl rfl)
        refine SXL.assign rfl ?_
        refine SXL.nil ?_
        refine blockQ.normal ?_
        refine thenQ.normal ?_
        refine SX.region ?_
        refine SXL.add rfl rfl (by omega) ?_
        refine SXL.move rfl ?_
        refine SXL.nil ?_
        refine thenQ.normal ?_
        refine ⟨i + 1, Meets.mk _ ⟨rfl, (congrArg (fun b => some (Value.bool b)) (decide_eq_decide.2 (okTo_succ hlt))), trivial⟩ ⟨rfl, rfl, rfl, rfl, rfl, rfl, rfl, trivial⟩ rfl, (by omega), (by omega)⟩
      · refine SX.exit ?_
        refine thenQ.exit ?_
        refine thenQ.exit ?_
        refine blockQ.exit ?_
        refine thenQ.normal ?_
        refine SX.seq ?_
        obtain rfl : i = s.reads.length := by omega
        refine SX.region ?_
        refine SXL.move rfl ?_
        refine SXL.nil ?_
        refine thenQ.normal ?_
        refine SX.condP rfl (fun c51 => ?_) (fun c51 => ?_)
        · refine SX.region ?_
          refine SXL.move rfl ?_
          refine SXL.move rfl ?_
          refine SXL.move rfl ?_
          refine SXL.fieldAddr fp_155_0 rfl ?_
          refine SXL.indexA el_153 rfl rfl (by omega) ?_
          refine SXL.load1o 2 sh_3 rfl rfl (intsAtX (i := k) (by omega) (by simp only [hBj.len]; omega)) ?_
          refine SXL.move rfl ?_
          refine SXL.min rfl rfl ?_
          refine SXL.move rfl ?_
          refine SXL.fieldAddr fp_155_0 rfl ?_
          refine SXL.indexA el_153 rfl rfl (by omega) ?_
          refine SXL.store 2 sz_3 rfl rfl rfl rfl rfl (ints_put (i := k) (by omega) (by simp only [hBj.len]; omega)) ?_
          refine SXL.fieldAddr fp_155_1 rfl ?_
          refine SXL.indexA el_153 rfl rfl (by omega) ?_
          refine SXL.store 2 sz_3 rfl rfl rfl rfl rfl (ints_put (i := 10 + k) (by omega) (by simp only [List.length_set, hBj.len]; omega)) ?_
          refine SXL.nil ?_
          refine blockQ.normal ?_
          refine thenQ.normal ?_
          refine SX.region ?_
          refine SXL.move rfl ?_
          refine SXL.add rfl rfl (by omega) ?_
          refine SXL.assign rfl ?_
          refine SXL.nil ?_
          refine thenQ.normal ?_
          refine ⟨j + 1, Meets.mk _ ⟨rfl, trivial⟩ ⟨rfl, rfl, rfl, rfl, trivial⟩ (by first | (rw [show weekTo s (baseTo s k) k (j + 1) = _ from if_pos (okTo_all c51)]; rfl) | (rw [show weekTo s (baseTo s k) k (j + 1) = _ from if_neg (okTo_not c51)]; rfl)), (by omega), (by omega)⟩
        · refine SX.skip ?_
          refine blockQ.normal ?_
          refine thenQ.normal ?_
          refine SX.region ?_
          refine SXL.move rfl ?_
          refine SXL.add rfl rfl (by omega) ?_
          refine SXL.assign rfl ?_
          refine SXL.nil ?_
          refine thenQ.normal ?_
          refine ⟨j + 1, Meets.mk _ ⟨rfl, trivial⟩ ⟨rfl, rfl, rfl, rfl, trivial⟩ (by first | (rw [show weekTo s (baseTo s k) k (j + 1) = _ from if_pos (okTo_all c51)]; rfl) | (rw [show weekTo s (baseTo s k) k (j + 1) = _ from if_neg (okTo_not c51)]; rfl)), (by omega), (by omega)⟩
    · refine SX.exit ?_
      refine thenQ.exit ?_
      refine thenQ.exit ?_
      refine blockQ.exit ?_
      refine blockQ.normal ?_
      refine thenQ.normal ?_
      obtain rfl : j = s.most.toNat + 1 := by omega
      refine SX.region ?_
      refine SXL.move rfl ?_
      refine SXL.add rfl rfl (by omega) ?_
      refine SXL.assign rfl ?_
      refine SXL.nil ?_
      refine thenQ.normal ?_
      refine ⟨k + 1, Meets.mk _ ⟨rfl, trivial⟩ ⟨rfl, rfl, rfl, trivial⟩ rfl, (by omega), (by omega)⟩
  · refine SX.exit ?_
    refine thenQ.exit ?_
    refine thenQ.exit ?_
    refine blockQ.exit ?_
    refine thenQ.normal ?_
    refine SX.seq ?_
    refine SX.region ?_
    refine SXL.loadNo 2 sh_155 rfl rfl (takeAt_full (by simp only [length_ints, hB.len])) ?_
    refine SXL.store 1 sz_155 rfl rfl rfl rfl (by simp only [length_ints, hB.len]) (putAt_all _ _ (by simp only [length_ints, hB.len]; rfl)) ?_ (ints_isOne _)
    refine SXL.nil ?_
    refine thenQ.normal ?_
    refine SX.ret ?_
    refine retQ.one (ResAt.cellNo 1 sh_155 rfl rfl (takeAt_full (by simp only [length_ints, hB.len]))) ?_
    rw [show k = s.weeks.toNat by omega]; rfl
set_option maxHeartbeats 1000000 in
theorem leaves_any (s : Sp) (bo ro : Option Addr) (bc rc : Nat) (L : List Int) (hL : Bd L) (rain : Int) (hv : SpP s) (w : World) (hs : SpAt w s bo ro) :
    CallsR Tryd.prog 116 [.agg ⟨[.int .i64 s.weeks, .int .i64 s.most, .int .i64 s.fall, .int .i64 s.a0, .int .i64 s.a1, .int .i64 s.w0, .int .i64 s.w1, (.slice bo s.book.length bc), (.slice ro s.reads.length rc)]⟩, .agg ⟨ints L⟩, .int .i64 rain] w (fun v _ => v = .tuple ⟨[.agg ⟨ints (lvL s L rain)⟩, .bool (decide (lvB s L rain))]⟩) := by
  have hH := hv.1
  unfold HeadP at hH
  refine CallsR.of_SX (n := 143) (rs := [.cell 6 155, .tmp 7]) Tryd.func116 rfl rfl rfl rfl ?_
  show SX _ _ _ ⟨[(0, .agg ⟨[.int .i64 s.weeks, .int .i64 s.most, .int .i64 s.fall, .int .i64 s.a0, .int .i64 s.a1, .int .i64 s.w0, .int .i64 s.w1, (.slice bo s.book.length bc), (.slice ro s.reads.length rc)]⟩), (1, .agg ⟨ints L⟩), (2, .int .i64 rain)], [], []⟩
  refine SX.seq ?_
  refine SX.region ?_
  refine SXL.box rfl rfl ?_; intro b0
  refine SXL.box rfl rfl ?_; intro b1
  refine SXL.alloc zp_155 ?_; intro b2
  refine SXL.assign rfl ?_
  refine SXL.nil ?_
  refine thenQ.normal ?_
  refine SX.seq ?_
  refine SX.seq ?_
  refine SX.region ?_
  refine SXL.fieldAddr fp_68_5 rfl ?_
  refine SXL.load1o 0 sh_65 rfl rfl rfl ?_
  refine SXL.len is_65 rfl ?_
  refine SXL.move rfl ?_
  refine SXL.nil ?_
  refine thenQ.normal ?_
  refine SX.block ?_
  refine SX.loopG (α := Nat) [2, 3, 4, 6, 7, 14, 15] rfl (fun i => [(16, .int .i64 (i : Int))]) (fun i => [(1, (b1, .cells ⟨ints (linesTo s L rain i)⟩ 155 (0, 0)))]) (fun i => i ≤ s.book.length) (fun i => s.book.length - i) 0 (Nat.zero_le _) ⟨rfl, trivial⟩ rfl ?_
  rintro i hi
  have hM := hL.lines hv.2.1 hH.1 rain i
  refine SX.seq ?_
  refine SX.region ?_
  refine SXL.lss rfl rfl ?_
  refine SXL.nil ?_
  refine thenQ.normal ?_
  refine SX.seq ?_
  refine SX.condP rfl (fun c17 => ?_) (fun c17 => ?_)
  · refine SX.skip ?_
    refine thenQ.normal ?_
    refine SX.seq ?_
    refine SX.block ?_
    refine SX.seq ?_
    have hlt : i < s.book.length := by omega
    obtain ⟨b, o, ha, hm⟩ := hs.line hlt
    have hl := hv.2.1 i hlt
    refine SX.region ?_
    refine SXL.indexR el_65 rfl rfl ha (by omega) ?_
    refine SXL.loadN sh_129 rfl (hm _) rfl ?_
    refine SXL.alloc zp_129 ?_; intro b3
    refine SXL.store 3 sz_129 rfl rfl rfl rfl rfl rfl ?_
    refine SXL.nil ?_
    refine thenQ.normal ?_
    refine SX.seq ?_
    refine SX.region ?_
    refine SXL.move rfl ?_
    refine SXL.fieldAddr fp_129_0 rfl ?_
    refine SXL.fieldAddr fp_55_0 rfl ?_
    refine SXL.load1o 3 sh_3 rfl rfl rfl ?_
    refine SXL.fieldAddr fp_129_0 rfl ?_
    refine SXL.fieldAddr fp_55_1 rfl ?_
    refine SXL.load1o 3 sh_3 rfl rfl rfl ?_
    refine SXL.call1 (.bool (decide (Wi rain s.book[i].r0 s.book[i].r1))) fn_101 rfl (fun w hI => within_any _ _ _ _) ?_
    refine SXL.nil ?_
    refine thenQ.normal ?_
    refine SX.condP rfl (fun c27 => ?_) (fun c27 => ?_)
    · refine SX.draw 28 (by kernel_rfl) (by kernel_rfl) ⟨[2, 3, 13, 14, 18, 19, 20, 21, 22, 25, 26, 27], [true, false]⟩ ?_
      refine SXA.take 0 2 rfl (by kernel_rfl) rfl ?_
      refine SXL.fieldAddr fp_129_1 rfl ?_
      refine SXL.load1o 3 sh_3 rfl rfl rfl ?_
      refine SXL.nil ⟨rfl, rfl, rfl, ?_⟩
      refine SXA.takeM 2 2 rfl (by kernel_rfl) rfl ?_
      refine SXL.fieldAddr fp_129_1 rfl ?_
      refine SXL.load1o 2 sh_3 rfl rfl rfl ?_
      refine SXL.nil ⟨rfl, rfl, rfl, ?_⟩
      refine SXA.take 4 9 rfl (by kernel_rfl) rfl ?_
      refine SXL.fieldAddr fp_129_1 rfl ?_
      refine SXL.load1o 3 sh_3 rfl rfl rfl ?_
      refine SXL.fieldAddr fp_155_0 rfl ?_
      refine SXL.indexA el_153 rfl rfl (by omega) ?_
      refine SXL.load1o 1 sh_3 rfl rfl (intsAtX (i := s.book[i].wk.toNat) (by omega) (by simp only [hM.len]; omega)) ?_
      refine SXL.fieldAddr fp_129_2 rfl ?_
      refine SXL.fieldAddr fp_55_0 rfl ?_
      refine SXL.load1o 3 sh_3 rfl rfl rfl ?_
      refine SXL.max rfl rfl ?_
      refine SXL.nil ⟨rfl, rfl, rfl, ?_⟩
      refine SXA.takeM 13 2 rfl (by kernel_rfl) rfl ?_
      refine SXL.fieldAddr fp_129_1 rfl ?_
      refine SXL.load1o 2 sh_3 rfl rfl rfl ?_
      refine SXL.nil ⟨rfl, rfl, rfl, ?_⟩
      refine SXA.take 15 3 rfl (by kernel_rfl) rfl ?_
      refine SXL.fieldAddr fp_155_1 rfl ?_
      refine SXL.indexA el_153 rfl rfl (by omega) ?_
      refine SXL.load1o 1 sh_3 rfl rfl (intsAtX (i := 10 + s.book[i].wk.toNat) (by omega) (by simp only [hM.len]; omega)) ?_
      refine SXL.nil ⟨rfl, rfl, rfl, ?_⟩
      refine SXA.takeM 18 5 rfl (by kernel_rfl) rfl ?_
      refine SXL.fieldAddr fp_129_2 rfl ?_
      refine SXL.fieldAddr fp_55_1 rfl ?_
      refine SXL.load1o 2 sh_3 rfl rfl rfl ?_
      refine SXL.min rfl rfl ?_
      refine SXL.fieldAddr fp_155_0 rfl ?_
      refine SXL.nil ⟨rfl, rfl, rfl, ?_⟩
      refine SXA.take 23 1 rfl (by kernel_rfl) rfl ?_
      refine SXL.indexA el_153 rfl rfl (by omega) ?_
      refine SXL.nil ⟨rfl, rfl, rfl, ?_⟩
      refine SXA.takeM 25 1 rfl (by kernel_rfl) rfl ?_
      refine SXL.fieldAddr fp_155_1 rfl ?_
      refine SXL.nil ⟨rfl, rfl, rfl, ?_⟩
      refine SXA.all [24] (by kernel_rfl) rfl ⟨⟨?_, rfl⟩, trivial⟩
      refine (show SXL _ _ [_] _ _ from ?_)
      refine SXL.store 1 sz_3 rfl rfl rfl rfl rfl (ints_put (i := s.book[i].wk.toNat) (by omega) (by simp only [hM.len]; omega)) ?_
      refine SXL.nil (stepQ.mkL _ (by kernel_rfl) rfl rfl ?_)
      refine SXA.takeM 26 1 rfl (by kernel_rfl) rfl ?_
      refine SXL.indexA el_153 rfl rfl (by omega) ?_
      refine SXL.nil ⟨rfl, rfl, rfl, ?_⟩
      refine SXA.all [27] (by kernel_rfl) rfl ⟨⟨?_, rfl⟩, trivial⟩
      refine (show SXL _ _ [_] _ _ from ?_)
      refine SXL.store 1 sz_3 rfl rfl rfl rfl rfl (ints_put (i := 10 + s.book[i].wk.toNat) (by omega) (by simp only [List.length_set, hM.len]; omega)) ?_
      refine SXL.nil (stepQ.mkL _ (by kernel_rfl) rfl rfl ?_)
      refine SXA.done (by kernel_rfl) ?_
      refine SXL.nil ?_
      refine blockQ.normal ?_
      refine thenQ.normal ?_
      refine SX.region ?_
      refine SXL.add rfl rfl (by omega) ?_
      refine SXL.move rfl ?_
      refine SXL.nil ?_
      refine thenQ.normal ?_
      refine ⟨i + 1, Meets.mk _ ⟨rfl, trivial⟩ ⟨rfl, rfl, rfl, rfl, rfl, rfl, rfl, trivial⟩ (by first | (rw [linesTo_yes rain hlt c27]; rfl) | (rw [linesTo_no rain hlt c27]; rfl)), (by omega), (by omega)⟩
    · refine SX.skip ?_
      refine blockQ.normal ?_
      refine thenQ.normal ?_
      refine SX.region ?_
      refine SXL.add rfl rfl (by omega) ?_
      refine SXL.move rfl ?_
      refine SXL.nil ?_
      refine thenQ.normal ?_
      refine ⟨i + 1, Meets.mk _ ⟨rfl, trivial⟩ ⟨rfl, rfl, rfl, rfl, rfl, rfl, rfl, trivial⟩ (by first | (rw [linesTo_yes rain hlt c27]; rfl) | (rw [linesTo_no rain hlt c27]; rfl)), (by omega), (by omega)⟩
  · refine SX.exit ?_
    refine thenQ.exit ?_
    refine thenQ.exit ?_
    refine blockQ.exit ?_
    refine thenQ.normal ?_
    refine SX.seq ?_
    refine SX.seq ?_
    obtain rfl : i = s.book.length := by omega
    refine SX.region ?_
    refine SXL.assign rfl ?_
    refine SXL.nil ?_
    refine thenQ.normal ?_
    refine SX.block ?_
    refine SX.loopG (α := Nat) [3, 4, 6, 7] rfl (fun j => [(10, .int .i64 ((j : Int) + 1))]) (fun j => [(1, (b1, .cells ⟨ints (fwdTo s.fall (linesTo s L rain s.book.length) j)⟩ 155 (0, 0)))]) (fun j => j ≤ s.weeks.toNat - 1) (fun j => s.weeks.toNat - 1 - j) 0 (Nat.zero_le _) ⟨rfl, trivial⟩ rfl ?_
    rintro j hj
    have hF := hM.fwd hH.2.2.1 j (by omega)
    have g1 := hF.2 j (by omega)
    refine SX.seq ?_
    refine SX.seq ?_
    refine SX.region ?_
    refine SXL.move rfl ?_
    refine SXL.fieldAddr fp_68_0 rfl ?_
    refine SXL.load1o 0 sh_3 rfl rfl rfl ?_
    refine SXL.lss rfl rfl ?_
    refine SXL.nil ?_
    refine thenQ.normal ?_
    refine SX.condP rfl (fun c58 => ?_) (fun c58 => ?_)
    · refine SX.skip ?_
      refine thenQ.normal ?_
      refine SX.seq ?_
      refine SX.block ?_
      have g2 := hF.2 (j + 1) (by omega)
      have g3 := hF.2 (10 + j) (by omega)
      have g4 := hF.2 (10 + (j + 1)) (by omega)
      refine SX.draw 31 (by kernel_rfl) (by kernel_rfl) ⟨[1, 15, 19, 20, 24, 25, 28, 29, 30], [true, false]⟩ ?_
      refine SXA.take 0 1 rfl (by kernel_rfl) rfl ?_
      refine SXL.move rfl ?_
      refine SXL.nil ⟨rfl, rfl, rfl, ?_⟩
      refine SXA.takeM 1 1 rfl (by kernel_rfl) rfl ?_
      refine SXL.move rfl ?_
      refine SXL.nil ⟨rfl, rfl, rfl, ?_⟩
      refine SXA.take 2 13 rfl (by kernel_rfl) rfl ?_
      refine SXL.move rfl ?_
      refine SXL.fieldAddr fp_155_0 rfl ?_
      refine SXL.indexA el_153 rfl rfl (by omega) ?_
      refine SXL.load1o 1 sh_3 rfl rfl (intsAtX (i := j + 1) (by omega) (by simp only [hF.len]; omega)) ?_
      refine SXL.move rfl ?_
      refine SXL.sub rfl rfl (by omega) ?_
      refine SXL.fieldAddr fp_155_0 rfl ?_
      refine SXL.indexA el_153 rfl rfl (by omega) ?_
      refine SXL.load1o 1 sh_3 rfl rfl (intsAtX (i := j) (by omega) (by simp only [hF.len]; omega)) ?_
      refine SXL.fieldAddr fp_68_2 rfl ?_
      refine SXL.load1o 0 sh_3 rfl rfl rfl ?_
      refine SXL.sub rfl rfl (by omega) ?_
      refine SXL.max rfl rfl ?_
      refine SXL.nil ⟨rfl, rfl, rfl, ?_⟩
      refine SXA.takeM 15 1 rfl (by kernel_rfl) rfl ?_
      refine SXL.move rfl ?_
      refine SXL.nil ⟨rfl, rfl, rfl, ?_⟩
      refine SXA.take 16 3 rfl (by kernel_rfl) rfl ?_
      refine SXL.fieldAddr fp_155_1 rfl ?_
      refine SXL.indexA el_153 rfl rfl (by omega) ?_
      refine SXL.load1o 1 sh_3 rfl rfl (intsAtX (i := 10 + (j + 1)) (by omega) (by simp only [hF.len]; omega)) ?_
      refine SXL.nil ⟨rfl, rfl, rfl, ?_⟩
      refine SXA.takeM 19 2 rfl (by kernel_rfl) rfl ?_
      refine SXL.move rfl ?_
      refine SXL.sub rfl rfl (by omega) ?_
      refine SXL.nil ⟨rfl, rfl, rfl, ?_⟩
      refine SXA.take 21 3 rfl (by kernel_rfl) rfl ?_
      refine SXL.fieldAddr fp_155_1 rfl ?_
      refine SXL.indexA el_153 rfl rfl (by omega) ?_
      refine SXL.load1o 1 sh_3 rfl rfl (intsAtX (i := 10 + j) (by omega) (by simp only [hF.len]; omega)) ?_
      refine SXL.nil ⟨rfl, rfl, rfl, ?_⟩
      refine SXA.takeM 24 2 rfl (by kernel_rfl) rfl ?_
      refine SXL.min rfl rfl ?_
      refine SXL.fieldAddr fp_155_0 rfl ?_
      refine SXL.nil ⟨rfl, rfl, rfl, ?_⟩
      refine SXA.take 26 1 rfl (by kernel_rfl) rfl ?_
      refine SXL.indexA el_153 rfl rfl (by omega) ?_
      refine SXL.nil ⟨rfl, rfl, rfl, ?_⟩
      refine SXA.takeM 28 1 rfl (by kernel_rfl) rfl ?_
      refine SXL.fieldAddr fp_155_1 rfl ?_
      refine SXL.nil ⟨rfl, rfl, rfl, ?_⟩
      refine SXA.all [27] (by kernel_rfl) rfl ⟨⟨?_, rfl⟩, trivial⟩
      refine (show SXL _ _ [_] _ _ from ?_)
      refine SXL.store 1 sz_3 rfl rfl rfl rfl rfl (ints_put (i := j + 1) (by omega) (by simp only [hF.len]; omega)) ?_
      refine SXL.nil (stepQ.mkL _ (by kernel_rfl) rfl rfl ?_)
      refine SXA.takeM 29 1 rfl (by kernel_rfl) rfl ?_
      refine SXL.indexA el_153 rfl rfl (by omega) ?_
      refine SXL.nil ⟨rfl, rfl, rfl, ?_⟩
      refine SXA.all [30] (by kernel_rfl) rfl ⟨⟨?_, rfl⟩, trivial⟩
      refine (show SXL _ _ [_] _ _ from ?_)
      refine SXL.store 1 sz_3 rfl rfl rfl rfl rfl (ints_put (i := 10 + (j + 1)) (by omega) (by simp only [List.length_set, hF.len]; omega)) ?_
      refine SXL.nil (stepQ.mkL _ (by kernel_rfl) rfl rfl ?_)
      refine SXA.done (by kernel_rfl) ?_
      refine SXL.nil ?_
      refine blockQ.normal ?_
      refine thenQ.normal ?_
      refine SX.region ?_
      refine SXL.move rfl ?_
      refine SXL.add rfl rfl (by omega) ?_
      refine SXL.assign rfl ?_
      refine SXL.nil ?_
      refine thenQ.normal ?_
      refine ⟨j + 1, Meets.mk _ ⟨rfl, trivial⟩ ⟨rfl, rfl, rfl, rfl, trivial⟩ rfl, (by omega), (by omega)⟩
    · refine SX.exit ?_
      refine thenQ.exit ?_
      refine thenQ.exit ?_
      refine blockQ.exit ?_
      refine thenQ.normal ?_
      refine SX.seq ?_
      refine SX.seq ?_
      obtain rfl : j = s.weeks.toNat - 1 := by omega
      refine SX.region ?_
      refine SXL.fieldAddr fp_68_0 rfl ?_
      refine SXL.load1o 0 sh_3 rfl rfl rfl ?_
      refine SXL.sub rfl rfl (by omega) ?_
      refine SXL.assign rfl ?_
      refine SXL.nil ?_
      refine thenQ.normal ?_
      refine SX.block ?_
      refine SX.loopG (α := Nat) [3, 4, 6, 7] rfl (fun j => [(11, .int .i64 (s.weeks - 2 - (j : Int)))]) (fun j => [(1, (b1, .cells ⟨ints (bwdTo s.fall (s.weeks.toNat - 1) (fwdTo s.fall (linesTo s L rain s.book.length) (s.weeks.toNat - 1)) j)⟩ 155 (0, 0)))]) (fun j => j ≤ s.weeks.toNat - 1) (fun j => s.weeks.toNat - 1 - j) 0 (Nat.zero_le _) ⟨congrArg (fun z => some (Value.int .i64 z)) (show s.weeks - 2 = s.weeks - 2 - ((0 : Nat) : Int) by omega), trivial⟩ rfl ?_
      rintro j hj
      have hW := hF.bwd (n := s.weeks.toNat - 1) hH.2.2.1 (by omega) j (by omega)
      refine SX.seq ?_
      refine SX.seq ?_
      refine SX.region ?_
      refine SXL.move rfl ?_
      refine SXL.geq rfl rfl ?_
      refine SXL.nil ?_
      refine thenQ.normal ?_
      refine SX.condP rfl (fun c94 => ?_) (fun c94 => ?_)
      · refine SX.skip ?_
        refine thenQ.normal ?_
        refine SX.seq ?_
        refine SX.block ?_
        have hw8 : s.weeks.toNat - 1 - 1 - j ≤ 8 := by omega
        have g1 := hW.2 (s.weeks.toNat - 1 - 1 - j) (by omega)
        have g2 := hW.2 (s.weeks.toNat - 1 - 1 - j + 1) (by omega)
        have g3 := hW.2 (10 + (s.weeks.toNat - 1 - 1 - j)) (by omega)
        have g4 := hW.2 (10 + (s.weeks.toNat - 1 - 1 - j + 1)) (by omega)
        refine SX.draw 31 (by kernel_rfl) (by kernel_rfl) ⟨[1, 12, 16, 17, 21, 22, 23, 24, 25, 28, 29, 30], [true, false]⟩ ?_
        refine SXA.take 0 1 rfl (by kernel_rfl) rfl ?_
        refine SXL.move rfl ?_
        refine SXL.nil ⟨rfl, rfl, rfl, ?_⟩
        refine SXA.takeM 1 1 rfl (by kernel_rfl) rfl ?_
        refine SXL.move rfl ?_
        refine SXL.nil ⟨rfl, rfl, rfl, ?_⟩
        refine SXA.take 2 10 rfl (by kernel_rfl) rfl ?_
        refine SXL.move rfl ?_
        refine SXL.fieldAddr fp_155_0 rfl ?_
        refine SXL.indexA el_153 rfl rfl (by omega) ?_
        refine SXL.load1o 1 sh_3 rfl rfl (intsAtX (i := s.weeks.toNat - 1 - 1 - j) (by omega) (by simp only [hW.len]; omega)) ?_
        refine SXL.move rfl ?_
        refine SXL.add rfl rfl (by omega) ?_
        refine SXL.fieldAddr fp_155_0 rfl ?_
        refine SXL.indexA el_153 rfl rfl (by omega) ?_
        refine SXL.load1o 1 sh_3 rfl rfl (intsAtX (i := s.weeks.toNat - 1 - 1 - j + 1) (by omega) (by simp only [hW.len]; omega)) ?_
        refine SXL.max rfl rfl ?_
        refine SXL.nil ⟨rfl, rfl, rfl, ?_⟩
        refine SXA.takeM 12 1 rfl (by kernel_rfl) rfl ?_
        refine SXL.move rfl ?_
        refine SXL.nil ⟨rfl, rfl, rfl, ?_⟩
        refine SXA.take 13 3 rfl (by kernel_rfl) rfl ?_
        refine SXL.fieldAddr fp_155_1 rfl ?_
        refine SXL.indexA el_153 rfl rfl (by omega) ?_
        refine SXL.load1o 1 sh_3 rfl rfl (intsAtX (i := 10 + (s.weeks.toNat - 1 - 1 - j)) (by omega) (by simp only [hW.len]; omega)) ?_
        refine SXL.nil ⟨rfl, rfl, rfl, ?_⟩
        refine SXA.takeM 16 2 rfl (by kernel_rfl) rfl ?_
        refine SXL.move rfl ?_
        refine SXL.add rfl rfl (by omega) ?_
        refine SXL.nil ⟨rfl, rfl, rfl, ?_⟩
        refine SXA.take 18 3 rfl (by kernel_rfl) rfl ?_
        refine SXL.fieldAddr fp_155_1 rfl ?_
        refine SXL.indexA el_153 rfl rfl (by omega) ?_
        refine SXL.load1o 1 sh_3 rfl rfl (intsAtX (i := 10 + (s.weeks.toNat - 1 - 1 - j + 1)) (by omega) (by simp only [hW.len]; omega)) ?_
        refine SXL.nil ⟨rfl, rfl, rfl, ?_⟩
        refine SXA.takeM 21 5 rfl (by kernel_rfl) rfl ?_
        refine SXL.fieldAddr fp_68_2 rfl ?_
        refine SXL.load1o 0 sh_3 rfl rfl rfl ?_
        refine SXL.add rfl rfl (by omega) ?_
        refine SXL.min rfl rfl ?_
        refine SXL.fieldAddr fp_155_0 rfl ?_
        refine SXL.nil ⟨rfl, rfl, rfl, ?_⟩
        refine SXA.take 26 1 rfl (by kernel_rfl) rfl ?_
        refine SXL.indexA el_153 rfl rfl (by omega) ?_
        refine SXL.nil ⟨rfl, rfl, rfl, ?_⟩
        refine SXA.takeM 28 1 rfl (by kernel_rfl) rfl ?_
        refine SXL.fieldAddr fp_155_1 rfl ?_
        refine SXL.nil ⟨rfl, rfl, rfl, ?_⟩
        refine SXA.all [27] (by kernel_rfl) rfl ⟨⟨?_, rfl⟩, trivial⟩
        refine (show SXL _ _ [_] _ _ from ?_)
        refine SXL.store 1 sz_3 rfl rfl rfl rfl rfl (ints_put (i := s.weeks.toNat - 1 - 1 - j) (by omega) (by simp only [hW.len]; omega)) ?_
        refine SXL.nil (stepQ.mkL _ (by kernel_rfl) rfl rfl ?_)
        refine SXA.takeM 29 1 rfl (by kernel_rfl) rfl ?_
        refine SXL.indexA el_153 rfl rfl (by omega) ?_
        refine SXL.nil ⟨rfl, rfl, rfl, ?_⟩
        refine SXA.all [30] (by kernel_rfl) rfl ⟨⟨?_, rfl⟩, trivial⟩
        refine (show SXL _ _ [_] _ _ from ?_)
        refine SXL.store 1 sz_3 rfl rfl rfl rfl rfl (ints_put (i := 10 + (s.weeks.toNat - 1 - 1 - j)) (by omega) (by simp only [List.length_set, hW.len]; omega)) ?_
        refine SXL.nil (stepQ.mkL _ (by kernel_rfl) rfl rfl ?_)
        refine SXA.done (by kernel_rfl) ?_
        refine SXL.nil ?_
        refine blockQ.normal ?_
        refine thenQ.normal ?_
        refine SX.region ?_
        refine SXL.move rfl ?_
        refine SXL.sub rfl rfl (by omega) ?_
        refine SXL.assign rfl ?_
        refine SXL.nil ?_
        refine thenQ.normal ?_
        refine ⟨j + 1, Meets.mk _ ⟨congrArg (fun z => some (Value.int .i64 z)) (show s.weeks - 2 - (j : Int) - 1 = s.weeks - 2 - ((j + 1 : Nat) : Int) by omega), trivial⟩ ⟨rfl, rfl, rfl, rfl, trivial⟩ rfl, (by omega), (by omega)⟩
      · refine SX.exit ?_
        refine thenQ.exit ?_
        refine thenQ.exit ?_
        refine blockQ.exit ?_
        refine thenQ.normal ?_
        refine SX.seq ?_
        refine SX.seq ?_
        obtain rfl : j = s.weeks.toNat - 1 := by omega
        refine SX.region ?_
        refine SXL.assign rfl ?_
        refine SXL.nil ?_
        refine thenQ.normal ?_
        refine SX.block ?_
        refine SX.loopG (α := Nat) [3, 4, 6, 7] rfl (fun i => [(12, .int .i64 (i : Int))]) (fun i => []) (fun i => i ≤ s.weeks.toNat ∧ ∀ w, w < i → G (lvL s L rain) w ≤ G (lvL s L rain) (10 + w)) (fun i => s.weeks.toNat - i) 0 ⟨Nat.zero_le _, fun _ h => absurd h (Nat.not_lt_zero _)⟩ ⟨rfl, trivial⟩ rfl ?_
        rintro i ⟨hi2, hall⟩
        refine SX.seq ?_
        refine SX.seq ?_
        refine SX.region ?_
        refine SXL.move rfl ?_
        refine SXL.fieldAddr fp_68_0 rfl ?_
        refine SXL.load1o 0 sh_3 rfl rfl rfl ?_
        refine SXL.lss rfl rfl ?_
        refine SXL.nil ?_
        refine thenQ.normal ?_
        refine SX.condP rfl (fun c129 => ?_) (fun c129 => ?_)
        · refine SX.skip ?_
          refine thenQ.normal ?_
          refine SX.seq ?_
          refine SX.block ?_
          refine SX.seq ?_
          refine SX.draw 9 (by kernel_rfl) (by kernel_rfl) {} ?_
          refine SXA.take 0 9 rfl (by kernel_rfl) rfl ?_
          refine SXL.move rfl ?_
          refine SXL.fieldAddr fp_155_0 rfl ?_
          refine SXL.indexA el_153 rfl rfl (by omega) ?_
          refine SXL.load1o 1 sh_3 rfl rfl (intsAtX (i := i) (by omega) (by simp only [hW.len]; omega)) ?_
          refine SXL.move rfl ?_
          refine SXL.fieldAddr fp_155_1 rfl ?_
          refine SXL.indexA el_153 rfl rfl (by omega) ?_
          refine SXL.load1o 1 sh_3 rfl rfl (intsAtX (i := 10 + i) (by omega) (by simp only [hW.len]; omega)) ?_
          refine SXL.gtr rfl rfl ?_
          refine SXL.nil ⟨rfl, rfl, rfl, ?_⟩
          refine SXA.done (by kernel_rfl) ?_
          refine SXL.nil ?_
          refine thenQ.normal ?_
          refine SX.condP rfl (fun c140 => ?_) (fun c140 => ?_)
          · refine SX.seq ?_
            refine SX.region ?_
            refine SXL.loadNo 1 sh_155 rfl rfl (takeAt_full (by simp only [length_ints, hW.len])) ?_
            refine SXL.store 2 sz_155 rfl rfl rfl rfl (by simp only [length_ints, hW.len]) (putAt_all _ _ (by simp only [length_ints, hW.len]; rfl)) ?_ (ints_isOne _)
            refine SXL.assign rfl ?_
            refine SXL.nil ?_
            refine thenQ.normal ?_
            refine SX.ret ?_
            refine blockQ.ret ?_
            refine thenQ.ret ?_
            refine thenQ.ret ?_
            refine blockQ.ret ?_
            refine thenQ.ret ?_
            refine retQ.two (ResAt.cellNo 2 sh_155 rfl rfl (takeAt_full (by simp only [length_ints, hW.len]))) (ResAt.tmp rfl) ?_
            rw [decide_eq_false (p := lvB s L rain) (fun h => absurd (h i (by omega)) (Int.not_le.2 c140))]; rfl
          · refine SX.skip ?_
            refine blockQ.normal ?_
            refine thenQ.normal ?_
            refine SX.region ?_
            refine SXL.move rfl ?_
            refine SXL.add rfl rfl (by omega) ?_
            refine SXL.assign rfl ?_
            refine SXL.nil ?_
            refine thenQ.normal ?_
            refine ⟨i + 1, Meets.mk _ ⟨rfl, trivial⟩ ⟨rfl, rfl, rfl, rfl, trivial⟩ rfl, ?_, (by omega)⟩
            refine ⟨by omega, fun w hw => ?_⟩
            by_cases e : w = i
            · subst e; exact Int.not_lt.1 c140
            · exact hall w (by omega)
        · refine SX.exit ?_
          refine thenQ.exit ?_
          refine thenQ.exit ?_
          refine blockQ.exit ?_
          refine thenQ.normal ?_
          refine SX.seq ?_
          refine SX.region ?_
          refine SXL.loadNo 1 sh_155 rfl rfl (takeAt_full (by simp only [length_ints, hW.len])) ?_
          refine SXL.store 2 sz_155 rfl rfl rfl rfl (by simp only [length_ints, hW.len]) (putAt_all _ _ (by simp only [length_ints, hW.len]; rfl)) ?_ (ints_isOne _)
          refine SXL.assign rfl ?_
          refine SXL.nil ?_
          refine thenQ.normal ?_
          refine SX.ret ?_
          refine retQ.two (ResAt.cellNo 2 sh_155 rfl rfl (takeAt_full (by simp only [length_ints, hW.len]))) (ResAt.tmp rfl) ?_
          rw [decide_eq_true (p := lvB s L rain) (fun w hw => hall w (by omega))]; rfl
end Go.Proofs.YtolcicaclflagaaDoor

/- The walks of functions. -/
namespace Go.Proofs.YtolcicaclflagaaDoor
open Go.X Go.S
theorem rained_any (s : Sp) (bo ro : Option Addr) (bc rc : Nat) (L : List Int) (hL : Bd L) (hv : SpP s) (w : World) (hs : SpAt w s bo ro) :
    CallsR Tryd.prog 110 [.agg ⟨[.int .i64 s.weeks, .int .i64 s.most, .int .i64 s.fall, .int .i64 s.a0, .int .i64 s.a1, .int .i64 s.w0, .int .i64 s.w1, (.slice bo s.book.length bc), (.slice ro s.reads.length rc)]⟩, .agg ⟨ints L⟩] w (RnR (rnsL s L) (lvsL s L (rnsL s L))) := by
  have hH := hv.1
  unfold HeadP at hH
  refine CallsR.of_SX (n := 39) (rs := [.tmp 4, .tmp 5]) Tryd.func110 rfl rfl rfl rfl ?_
  show SX _ _ _ ⟨[(0, .agg ⟨[.int .i64 s.weeks, .int .i64 s.most, .int .i64 s.fall, .int .i64 s.a0, .int .i64 s.a1, .int .i64 s.w0, .int .i64 s.w1, (.slice bo s.book.length bc), (.slice ro s.reads.length rc)]⟩), (1, .agg ⟨ints L⟩)], [], []⟩
  refine SX.seq ?_
  refine SX.region ?_
  refine SXL.box rfl rfl ?_; intro b0
  refine SXL.box rfl rfl ?_; intro b1
  refine SXL.assign rfl ?_
  refine SXL.assign rfl ?_
  refine SXL.nil ?_
  refine thenQ.normal ?_
  refine SX.seq ?_
  refine SX.region ?_
  refine SXL.assign rfl ?_
  refine SXL.nil ?_
  refine thenQ.normal ?_
  refine SX.seq ?_
  refine SX.region ?_
  refine SXL.assign rfl ?_
  refine SXL.nil ?_
  refine thenQ.normal ?_
  refine SX.seq ?_
  refine SX.seq ?_
  refine SX.pad (Sl.nil.ent 3 []) rfl ?_
  refine SX.pad (Sl.nil.ent 155 []) rfl ?_
  refine SX.region ?_
  refine SXL.fieldAddr fp_68_4 rfl ?_
  refine SXL.fieldAddr fp_55_0 rfl ?_
  refine SXL.load1o 0 sh_3 rfl rfl rfl ?_
  refine SXL.assign rfl ?_
  refine SXL.nil ?_
  refine thenQ.normal ?_
  refine SX.block ?_
  refine SX.loopG (α := Nat × Sl × Sl × Nat × Nat × List Value × List Value) [2, 3, 4, 5] rfl (fun ⟨k, r1, r2, n1, n2, c1, c2⟩ => [(8, .int .i64 (s.w0 + (k : Int))), (6, r1.val n1), (7, r2.val n2)]) (fun ⟨k, r1, r2, n1, n2, c1, c2⟩ => [(2, r1.ent 3 c1), (3, r2.ent 155 c2)]) (fun ⟨k, r1, r2, n1, n2, c1, c2⟩ => k ≤ rnN s ∧ r1.Ok n1 1 c1 ∧ c1 = ints (rnsTo s L k) ∧ r2.Ok n2 20 c2 ∧ c2 = (rowsI (lvsL s L (rnsTo s L k))).flatten ∧ n2 = n1) (fun ⟨k, r1, r2, n1, n2, c1, c2⟩ => rnN s - k) (0, Sl.nil, Sl.nil, 0, 0, [], []) ⟨Nat.zero_le _, .none _, rfl, .none _, rfl, rfl⟩ ⟨congrArg (fun z => some (Value.int .i64 z)) (show s.w0 = s.w0 + ((0 : Nat) : Int) by omega), rfl, rfl, trivial⟩ rfl ?_
  rintro ⟨k, r1, r2, n1, n2, c1, c2⟩ ⟨hk, ho1, rfl, ho2, rfl, rfl⟩
  have hlen := rnsTo_len s L k
  have hn1 := Ok.n ho1
  have hN : rnN s = (s.w1 + 1 - s.w0).toNat := rfl
  have hLv := Bd.lv hL hv (s.w0 + (k : Int))
  refine SX.seq ?_
  refine SX.seq ?_
  refine SX.region ?_
  refine SXL.move rfl ?_
  refine SXL.fieldAddr fp_68_4 rfl ?_
  refine SXL.fieldAddr fp_55_1 rfl ?_
  refine SXL.load1o 0 sh_3 rfl rfl rfl ?_
  refine SXL.leq rfl rfl ?_
  refine SXL.nil ?_
  refine thenQ.normal ?_
  refine SX.condP rfl (fun c18 => ?_) (fun c18 => ?_)
  · refine SX.skip ?_
    refine thenQ.normal ?_
    refine SX.seq ?_
    refine SX.block ?_
    refine SX.seq ?_
    refine SX.region ?_
    refine SXL.loadNo 0 sh_68 rfl rfl rfl ?_
    refine SXL.loadNo 1 sh_155 rfl rfl (takeAt_full (by simp only [length_ints, hL.len])) ?_
    refine SXL.move rfl ?_
    refine SXL.call1 (.tuple ⟨[.agg ⟨ints (lvL s L (s.w0 + (k : Int)))⟩, .bool (decide (lvB s L (s.w0 + (k : Int))))]⟩) fn_116 rfl (fun w hI => leaves_any s bo ro _ _ L hL _ hv _ (hs.inv hI)) ?_
    refine SXL.move rfl ?_
    refine SXL.extract rfl rfl ?_
    refine SXL.extract rfl rfl ?_
    refine SXL.alloc zp_155 ?_; intro b4
    refine SXL.store 4 sz_155 rfl rfl rfl rfl (by simp only [length_ints, hLv.len]) (putAt_all _ _ (by simp only [length_ints, hLv.len]; rfl)) ?_ (ints_isOne _)
    refine SXL.assign rfl ?_
    refine SXL.nil ?_
    refine thenQ.normal ?_
    refine SX.seq ?_
    refine SX.region ?_
    refine SXL.move rfl ?_
    refine SXL.nil ?_
    refine thenQ.normal ?_
    refine SX.condP rfl (fun c28 => ?_) (fun c28 => ?_)
    · refine SX.draw 10 (by kernel_rfl) (by kernel_rfl) ⟨[0, 1, 2, 4, 5, 6, 7, 8, 9], [true, true, false, false]⟩ ?_
      refine SXA.takeM 0 2 rfl (by kernel_rfl) rfl ?_
      refine SXL.move rfl ?_
      refine SXL.move rfl ?_
      refine SXL.nil ⟨rfl, rfl, rfl, ?_⟩
      refine SXA.takeM 4 2 rfl (by kernel_rfl) rfl ?_
      refine SXL.move rfl ?_
      refine SXL.loadNo 2 sh_155 rfl rfl (takeAt_full (by simp only [length_ints, hLv.len])) ?_
      refine SXL.nil ⟨rfl, rfl, rfl, ?_⟩
      refine SXA.all [2, 6] (by kernel_rfl) rfl ⟨⟨?_, rfl⟩, ⟨?_, rfl⟩, trivial⟩
      · refine (show SXL _ _ [_] _ _ from ?_)
        refine SXL.buildSlice et_33 zp_3 rfl rfl rfl rfl ?_; intro b5
        refine SXL.nil (stepQ.mk _ rfl rfl ?_)
        refine SXA.all [3, 6] (by kernel_rfl) rfl ⟨⟨?_, rfl⟩, ⟨?_, rfl⟩, trivial⟩
        · refine (show SXL _ _ [_] _ _ from ?_)
          refine SXL.append 2 ap_33 rfl rfl ho1 rfl (.inr ⟨_, _, rfl, Mem.own (i := 5) rfl (takeAt_all _)⟩) rfl rfl ⟨by simp only [maxLen]; omega, by omega⟩ ?_; intro r_32 o_32
          refine SXL.nil (stepQ.mkL _ (by kernel_rfl) rfl rfl ?_)
          refine SXA.all [6] (by kernel_rfl) rfl ⟨⟨?_, rfl⟩, trivial⟩
          refine (show SXL _ _ [_] _ _ from ?_)
          refine SXL.buildSlice et_141 zp_155 rfl rfl rfl (bld_one rfl (by simp only [length_ints, hLv.len])) ?_; intro b6
          refine SXL.nil (stepQ.mk _ rfl rfl ?_)
          refine SXA.all [7] (by kernel_rfl) rfl ⟨⟨?_, rfl⟩, trivial⟩
          refine (show SXL _ _ [_] _ _ from ?_)
          refine SXL.append 3 ap_141 rfl rfl ho2 rfl (.inr ⟨_, _, rfl, Mem.own (i := 6) rfl (takeAt_all _)⟩) (by simp only [length_ints, hLv.len]) (ints_isOne _) ⟨by simp only [maxLen]; omega, by omega⟩ ?_; intro r_36 o_36
          refine SXL.nil (stepQ.mkL _ (by kernel_rfl) rfl rfl ?_)
          refine SXA.takeM 8 2 rfl (by kernel_rfl) rfl ?_
          refine SXL.assign rfl ?_
          refine SXL.assign rfl ?_
          refine SXL.nil ⟨rfl, rfl, rfl, ?_⟩
          refine SXA.done (by kernel_rfl) ?_
          refine SXL.nil ?_
          refine blockQ.normal ?_
          refine thenQ.normal ?_
          refine SX.region ?_
          refine SXL.move rfl ?_
          refine SXL.add rfl rfl (by omega) ?_
          refine SXL.assign rfl ?_
          refine SXL.nil ?_
          refine thenQ.normal ?_
          refine ⟨(k + 1, _, _, _, _, _, _), Meets.mk _ ⟨congrArg (fun z => some (Value.int .i64 z)) (show s.w0 + (k : Int) + 1 = s.w0 + ((k + 1 : Nat) : Int) by omega), rfl, rfl, trivial⟩ ⟨rfl, rfl, rfl, rfl, trivial⟩ rfl, ?_, ?_⟩
          · refine ⟨by omega, ?_⟩
            first
              | exact ⟨o_32, by rw [rnsTo_yes c28]; simp [ints_snoc], o_36, by rw [rnsTo_yes c28]; simp [rowsI, lvsL], rfl⟩
              | exact ⟨ho1, by rw [rnsTo_no c28], ho2, by rw [rnsTo_no c28], rfl⟩
          · show rnN s - (k + 1) < rnN s - k; omega
        · refine (show SXL _ _ [_] _ _ from ?_)
          refine SXL.buildSlice et_141 zp_155 rfl rfl rfl (bld_one rfl (by simp only [length_ints, hLv.len])) ?_; intro b6
          refine SXL.nil (stepQ.mk _ rfl rfl ?_)
          refine SXA.all [3] (by kernel_rfl) rfl ⟨⟨?_, rfl⟩, trivial⟩
          refine (show SXL _ _ [_] _ _ from ?_)
          refine SXL.append 2 ap_33 rfl rfl ho1 rfl (.inr ⟨_, _, rfl, Mem.own (i := 5) rfl (takeAt_all _)⟩) rfl rfl ⟨by simp only [maxLen]; omega, by omega⟩ ?_; intro r_32 o_32
          refine SXL.nil (stepQ.mkL _ (by kernel_rfl) rfl rfl ?_)
          refine SXA.all [7] (by kernel_rfl) rfl ⟨⟨?_, rfl⟩, trivial⟩
          refine (show SXL _ _ [_] _ _ from ?_)
          refine SXL.append 3 ap_141 rfl rfl ho2 rfl (.inr ⟨_, _, rfl, Mem.own (i := 6) rfl (takeAt_all _)⟩) (by simp only [length_ints, hLv.len]) (ints_isOne _) ⟨by simp only [maxLen]; omega, by omega⟩ ?_; intro r_36 o_36
          refine SXL.nil (stepQ.mkL _ (by kernel_rfl) rfl rfl ?_)
          refine SXA.takeM 8 2 rfl (by kernel_rfl) rfl ?_
          refine SXL.assign rfl ?_
          refine SXL.assign rfl ?_
          refine SXL.nil ⟨rfl, rfl, rfl, ?_⟩
          refine SXA.done (by kernel_rfl) ?_
          refine SXL.nil ?_
          refine blockQ.normal ?_
          refine thenQ.normal ?_
          refine SX.region ?_
          refine SXL.move rfl ?_
          refine SXL.add rfl rfl (by omega) ?_
          refine SXL.assign rfl ?_
          refine SXL.nil ?_
          refine thenQ.normal ?_
          refine ⟨(k + 1, _, _, _, _, _, _), Meets.mk _ ⟨congrArg (fun z => some (Value.int .i64 z)) (show s.w0 + (k : Int) + 1 = s.w0 + ((k + 1 : Nat) : Int) by omega), rfl, rfl, trivial⟩ ⟨rfl, rfl, rfl, rfl, trivial⟩ rfl, ?_, ?_⟩
          · refine ⟨by omega, ?_⟩
            first
              | exact ⟨o_32, by rw [rnsTo_yes c28]; simp [ints_snoc], o_36, by rw [rnsTo_yes c28]; simp [rowsI, lvsL], rfl⟩
              | exact ⟨ho1, by rw [rnsTo_no c28], ho2, by rw [rnsTo_no c28], rfl⟩
          · show rnN s - (k + 1) < rnN s - k; omega
      · refine (show SXL _ _ [_] _ _ from ?_)
        refine SXL.buildSlice et_141 zp_155 rfl rfl rfl (bld_one rfl (by simp only [length_ints, hLv.len])) ?_; intro b5
        refine SXL.nil (stepQ.mk _ rfl rfl ?_)
        refine SXA.all [2] (by kernel_rfl) rfl ⟨⟨?_, rfl⟩, trivial⟩
        refine (show SXL _ _ [_] _ _ from ?_)
        refine SXL.buildSlice et_33 zp_3 rfl rfl rfl rfl ?_; intro b6
        refine SXL.nil (stepQ.mk _ rfl rfl ?_)
        refine SXA.all [3] (by kernel_rfl) rfl ⟨⟨?_, rfl⟩, trivial⟩
        refine (show SXL _ _ [_] _ _ from ?_)
        refine SXL.append 2 ap_33 rfl rfl ho1 rfl (.inr ⟨_, _, rfl, Mem.own (i := 6) rfl (takeAt_all _)⟩) rfl rfl ⟨by simp only [maxLen]; omega, by omega⟩ ?_; intro r_32 o_32
        refine SXL.nil (stepQ.mkL _ (by kernel_rfl) rfl rfl ?_)
        refine SXA.all [7] (by kernel_rfl) rfl ⟨⟨?_, rfl⟩, trivial⟩
        refine (show SXL _ _ [_] _ _ from ?_)
        refine SXL.append 3 ap_141 rfl rfl ho2 rfl (.inr ⟨_, _, rfl, Mem.own (i := 5) rfl (takeAt_all _)⟩) (by simp only [length_ints, hLv.len]) (ints_isOne _) ⟨by simp only [maxLen]; omega, by omega⟩ ?_; intro r_36 o_36
        refine SXL.nil (stepQ.mkL _ (by kernel_rfl) rfl rfl ?_)
        refine SXA.takeM 8 2 rfl (by kernel_rfl) rfl ?_
        refine SXL.assign rfl ?_
        refine SXL.assign rfl ?_
        refine SXL.nil ⟨rfl, rfl, rfl, ?_⟩
        refine SXA.done (by kernel_rfl) ?_
        refine SXL.nil ?_
        refine blockQ.normal ?_
        refine thenQ.normal ?_
        refine SX.region ?_
        refine SXL.move rfl ?_
        refine SXL.add rfl rfl (by omega) ?_
        refine SXL.assign rfl ?_
        refine SXL.nil ?_
        refine thenQ.normal ?_
        refine ⟨(k + 1, _, _, _, _, _, _), Meets.mk _ ⟨congrArg (fun z => some (Value.int .i64 z)) (show s.w0 + (k : Int) + 1 = s.w0 + ((k + 1 : Nat) : Int) by omega), rfl, rfl, trivial⟩ ⟨rfl, rfl, rfl, rfl, trivial⟩ rfl, ?_, ?_⟩
        · refine ⟨by omega, ?_⟩
          first
            | exact ⟨o_32, by rw [rnsTo_yes c28]; simp [ints_snoc], o_36, by rw [rnsTo_yes c28]; simp [rowsI, lvsL], rfl⟩
            | exact ⟨ho1, by rw [rnsTo_no c28], ho2, by rw [rnsTo_no c28], rfl⟩
        · show rnN s - (k + 1) < rnN s - k; omega
    · refine SX.skip ?_
      refine blockQ.normal ?_
      refine thenQ.normal ?_
      refine SX.region ?_
      refine SXL.move rfl ?_
      refine SXL.add rfl rfl (by omega) ?_
      refine SXL.assign rfl ?_
      refine SXL.nil ?_
      refine thenQ.normal ?_
      refine ⟨(k + 1, _, _, _, _, _, _), Meets.mk _ ⟨congrArg (fun z => some (Value.int .i64 z)) (show s.w0 + (k : Int) + 1 = s.w0 + ((k + 1 : Nat) : Int) by omega), rfl, rfl, trivial⟩ ⟨rfl, rfl, rfl, rfl, trivial⟩ rfl, ?_, ?_⟩
      · refine ⟨by omega, ?_⟩
        first
          | exact ⟨o_32, by rw [rnsTo_yes c28]; simp [ints_snoc], o_36, by rw [rnsTo_yes c28]; simp [rowsI, lvsL], rfl⟩
          | exact ⟨ho1, by rw [rnsTo_no c28], ho2, by rw [rnsTo_no c28], rfl⟩
      · show rnN s - (k + 1) < rnN s - k; omega
  · refine SX.exit ?_
    refine thenQ.exit ?_
    refine thenQ.exit ?_
    refine blockQ.exit ?_
    refine thenQ.normal ?_
    refine SX.seq ?_
    have hkN : k = rnN s := by omega
    subst hkN
    refine SX.region ?_
    refine SXL.move rfl ?_
    refine SXL.move rfl ?_
    refine SXL.assign rfl ?_
    refine SXL.assign rfl ?_
    refine SXL.nil ?_
    refine thenQ.normal ?_
    refine SX.ret ?_
    refine retQ.sel [2, 3] rfl rfl ?_
    refine retQ.two (ResAt.tmp rfl) (ResAt.tmp rfl) ?_
    refine ⟨r1, r2, ?_⟩; have e2 := Ok.n ho1; subst e2; exact ⟨ho1, by simpa [lvsL, rnsL] using ho2, by simp [lvsL, rnsL], rfl⟩
end Go.Proofs.YtolcicaclflagaaDoor

/- The walks of functions. -/
namespace Go.Proofs.YtolcicaclflagaaDoor
open Go.X Go.S
theorem hull_any (A : List (List Int)) (hA : ∀ x ∈ A, x.length = 20) (hne : 0 < A.length) (hmx : A.length ≤ 21) (week : Nat) (hw : week < 10) (ao : Option Addr) (c : Nat) (w : World) (h : RowsAt w ao 20 (rowsI A)) :
    CallsR Tryd.prog 106 [.slice ao A.length c, .int .i64 ((week : Int))] w (fun v _ => v = .agg ⟨[.int .i64 ((hLo A week)), .int .i64 ((hHi A week))]⟩) := by
  refine CallsR.of_SX (n := 44) (rs := [.cell 4 55]) Tryd.func106 rfl rfl rfl rfl ?_
  show SX _ _ _ ⟨[(0, .slice ao A.length c), (1, .int .i64 ((week : Int)))], [], []⟩
  refine SX.seq ?_
  refine SX.region ?_
  refine SXL.alloc zp_55 ?_; intro b0
  refine SXL.nil ?_
  refine thenQ.normal ?_
  refine SX.seq ?_
  obtain ⟨b, o, ha, hm⟩ := rowI h hne
  have hl := len20 hA hne
  refine SX.draw 14 (by kernel_rfl) (by kernel_rfl) {} ?_
  refine SXA.take 0 13 rfl (by kernel_rfl) rfl ?_
  refine SXL.move rfl ?_
  refine SXL.move rfl ?_
  refine SXL.indexR el_141 rfl rfl ha (by omega) ?_
  refine SXL.fieldAddr fp_155_0 rfl ?_
  refine SXL.indexA el_153 rfl rfl (by omega) ?_
  refine SXL.load1 sh_3 rfl (Mem.at (hm _) (intsAtX (i := week) rfl (by omega)) (by simp <;> omega)) ?_
  refine SXL.move rfl ?_
  refine SXL.move rfl ?_
  refine SXL.indexR el_141 rfl rfl ha (by omega) ?_
  refine SXL.fieldAddr fp_155_1 rfl ?_
  refine SXL.indexA el_153 rfl rfl (by omega) ?_
  refine SXL.load1 sh_3 rfl (Mem.at (hm _) (intsAtX (i := 10 + week) rfl (by omega)) (by simp <;> omega)) ?_
  refine SXL.buildS pl_55 zp_55 rfl rfl ?_
  refine SXL.nil ⟨rfl, rfl, rfl, ?_⟩
  refine SXA.all [13] (by kernel_rfl) rfl ⟨⟨?_, rfl⟩, trivial⟩
  refine (show SXL _ _ [_] _ _ from ?_)
  refine SXL.alloc zp_55 ?_; intro b1
  refine SXL.nil (stepQ.mk _ rfl rfl ?_)
  refine SXA.done (by kernel_rfl) ?_
  refine SXL.store 1 sz_55 rfl rfl rfl rfl rfl rfl ?_
  refine SXL.nil ?_
  refine thenQ.normal ?_
  refine SX.seq ?_
  refine SX.seq ?_
  refine SX.region ?_
  refine SXL.move rfl ?_
  refine SXL.len is_141 rfl ?_
  refine SXL.move rfl ?_
  refine SXL.nil ?_
  refine thenQ.normal ?_
  refine SX.block ?_
  refine SX.loopG (α := Nat) [1, 4, 5, 21, 22] rfl (fun k => [(23, .int .i64 ((k : Int)))]) (fun k => [(1, (b1, .cells ⟨[.int .i64 (hLoTo A week k), .int .i64 (hHiTo A week k)]⟩ 55 (0, 0)))]) (fun k => k ≤ A.length) (fun k => A.length - k) 0 (Nat.zero_le _) ⟨rfl, trivial⟩ rfl ?_
  rintro k hk
  refine SX.seq ?_
  refine SX.region ?_
  refine SXL.lss rfl rfl ?_
  refine SXL.nil ?_
  refine thenQ.normal ?_
  refine SX.seq ?_
  refine SX.condP rfl (fun c1 => ?_) (fun c1 => ?_)
  · refine SX.skip ?_
    refine thenQ.normal ?_
    refine SX.seq ?_
    refine SX.block ?_
    refine SX.seq ?_
    obtain ⟨b2, o2, ha2, hm2⟩ := rowI h (i := k) (by omega)
    have hl2 := len20 hA (i := k) (by omega)
    refine SX.region ?_
    refine SXL.indexR el_141 rfl rfl ha2 (by omega) ?_
    refine SXL.loadN sh_155 rfl (hm2 _) (by simp only [length_ints, hl2]) ?_
    refine SXL.alloc zp_155 ?_; intro b2
    refine SXL.store 2 sz_155 rfl rfl rfl rfl (by simp only [length_ints, hl2]) (putAt_all _ _ (by simp only [length_ints, hl2]; rfl)) ?_ (ints_isOne _)
    refine SXL.nil ?_
    refine thenQ.normal ?_
    refine SX.draw 15 (by kernel_rfl) (by kernel_rfl) {} ?_
    refine SXA.take 0 15 rfl (by kernel_rfl) rfl ?_
    refine SXL.fieldAddr fp_55_0 rfl ?_
    refine SXL.load1o 1 sh_3 rfl rfl rfl ?_
    refine SXL.move rfl ?_
    refine SXL.fieldAddr fp_155_0 rfl ?_
    refine SXL.indexA el_153 rfl rfl (by omega) ?_
    refine SXL.load1o 2 sh_3 rfl rfl (intsAtX (i := week) (by simp <;> omega) (by omega)) ?_
    refine SXL.min rfl rfl ?_
    refine SXL.fieldAddr fp_55_1 rfl ?_
    refine SXL.load1o 1 sh_3 rfl rfl rfl ?_
    refine SXL.move rfl ?_
    refine SXL.fieldAddr fp_155_1 rfl ?_
    refine SXL.indexA el_153 rfl rfl (by omega) ?_
    refine SXL.load1o 2 sh_3 rfl rfl (intsAtX (i := 10 + week) (by simp <;> omega) (by omega)) ?_
    refine SXL.max rfl rfl ?_
    refine SXL.buildS pl_55 zp_55 rfl rfl ?_
    refine SXL.nil ⟨rfl, rfl, rfl, ?_⟩
    refine SXA.done (by kernel_rfl) ?_
    refine SXL.store 1 sz_55 rfl rfl rfl rfl rfl rfl ?_
    refine SXL.nil ?_
    refine blockQ.normal ?_
    refine thenQ.normal ?_
    refine SX.region ?_
    refine SXL.add rfl rfl (by omega) ?_
    refine SXL.move rfl ?_
    refine SXL.nil ?_
    refine thenQ.normal ?_
    refine ⟨k + 1, Meets.mk _ ⟨rfl, trivial⟩ ⟨rfl, rfl, rfl, rfl, rfl, trivial⟩ rfl, (by omega), (by omega)⟩
  · refine SX.exit ?_
    refine thenQ.exit ?_
    refine thenQ.exit ?_
    refine blockQ.exit ?_
    refine thenQ.normal ?_
    refine SX.seq ?_
    obtain rfl : k = A.length := by omega
    refine SX.region ?_
    refine SXL.loadNo 1 sh_55 rfl rfl rfl ?_
    refine SXL.store 0 sz_55 rfl rfl rfl rfl rfl rfl ?_
    refine SXL.nil ?_
    refine thenQ.normal ?_
    refine SX.ret ?_
    refine retQ.one (ResAt.cellNo 0 sh_55 rfl rfl rfl) ?_
    first | rfl | assumption
theorem rains_any (s : Sp) (bo ro : Option Addr) (bc rc : Nat) (hv : SpP s) (w : World) (hs : SpAt w s bo ro) :
    CallsR Tryd.prog 107 [.agg ⟨[.int .i64 s.weeks, .int .i64 s.most, .int .i64 s.fall, .int .i64 s.a0, .int .i64 s.a1, .int .i64 s.w0, .int .i64 s.w1, (.slice bo s.book.length bc), (.slice ro s.reads.length rc)]⟩] w (RnR (rnsL s (baseL s)) (lvsL s (baseL s) (rnsL s (baseL s)))) := by
  refine CallsR.of_SX (n := 10) (rs := [.tmp 2, .tmp 3]) Tryd.func107 rfl rfl rfl rfl ?_
  show SX _ _ _ ⟨[(0, .agg ⟨[.int .i64 s.weeks, .int .i64 s.most, .int .i64 s.fall, .int .i64 s.a0, .int .i64 s.a1, .int .i64 s.w0, .int .i64 s.w1, (.slice bo s.book.length bc), (.slice ro s.reads.length rc)]⟩)], [], []⟩
  refine SX.seq ?_
  refine SX.region ?_
  refine SXL.box rfl rfl ?_; intro b0
  refine SXL.assign rfl ?_
  refine SXL.assign rfl ?_
  refine SXL.nil ?_
  refine thenQ.normal ?_
  refine SX.seq ?_
  refine SX.draw 8 (by kernel_rfl) (by kernel_rfl) {} ?_
  refine SXA.take 0 3 rfl (by kernel_rfl) rfl ?_
  refine SXL.loadNo 0 sh_68 rfl rfl rfl ?_
  refine SXL.loadNo 0 sh_68 rfl rfl rfl ?_
  refine SXL.call1 (.agg ⟨ints (baseL s)⟩) fn_111 rfl (fun w hI => base_any s bo ro _ _ hv _ (hs.inv hI)) ?_
  refine SXL.nil ⟨rfl, rfl, rfl, ?_⟩
  refine SXA.all [3] (by kernel_rfl) rfl ⟨⟨?_, rfl⟩, trivial⟩
  refine (show SXL _ _ [_] _ _ from ?_)
  refine SXL.callF (RnR (rnsL s (baseL s)) (lvsL s (baseL s) (rnsL s (baseL s)))) fn_110 rfl (fun w hI => rained_any s bo ro _ _ _ (baseL_Bd hv) hv _ (hs.inv hI)) ?_; rintro _ _ ⟨r1, r2, o1, o2, rfl, rfl⟩
  refine SXL.nil (stepQ.mk _ rfl rfl ?_)
  refine SXA.take 4 4 rfl (by kernel_rfl) rfl ?_
  refine SXL.extract rfl rfl ?_
  refine SXL.extract rfl rfl ?_
  refine SXL.assign rfl ?_
  refine SXL.assign rfl ?_
  refine SXL.nil ⟨rfl, rfl, rfl, ?_⟩
  refine SXA.done (by kernel_rfl) ?_
  refine SXL.nil ?_
  refine thenQ.normal ?_
  refine SX.ret ?_
  refine retQ.sel [1, 2] rfl rfl ?_
  refine retQ.two (ResAt.tmp rfl) (ResAt.tmp rfl) ?_
  exact ⟨r1, r2, o1, o2, rfl, rfl⟩
theorem true_any (s : Sp) (bo ro : Option Addr) (bc rc : Nat) (hv : SpP s) (w : World) (hs : SpAt w s bo ro) :
    CallsR Tryd.prog 93 [.agg ⟨[.int .i64 s.weeks, .int .i64 s.most, .int .i64 s.fall, .int .i64 s.a0, .int .i64 s.a1, .int .i64 s.w0, .int .i64 s.w1, (.slice bo s.book.length bc), (.slice ro s.reads.length rc)]⟩] w (fun v _ => v = .bool (decide (TrueP s))) := by
  refine CallsR.of_SX (n := 13) (rs := [.tmp 2]) Tryd.func93 rfl rfl rfl rfl ?_
  show SX _ _ _ ⟨[(0, .agg ⟨[.int .i64 s.weeks, .int .i64 s.most, .int .i64 s.fall, .int .i64 s.a0, .int .i64 s.a1, .int .i64 s.w0, .int .i64 s.w1, (.slice bo s.book.length bc), (.slice ro s.reads.length rc)]⟩)], [], []⟩
  refine SX.seq ?_
  refine SX.region ?_
  refine SXL.box rfl rfl ?_; intro b0
  refine SXL.assign rfl ?_
  refine SXL.nil ?_
  refine thenQ.normal ?_
  refine SX.seq ?_
  refine SX.region ?_
  refine SXL.loadNo 0 sh_68 rfl rfl rfl ?_
  refine SXL.callF (RnR (rnsL s (baseL s)) (lvsL s (baseL s) (rnsL s (baseL s)))) fn_107 rfl (fun w hI => rains_any s bo ro _ _ hv _ (hs.inv hI)) ?_; rintro _ _ ⟨r1, r2, o1, o2, rfl, rfl⟩
  refine SXL.move rfl ?_
  refine SXL.extract rfl rfl ?_
  refine SXL.extract rfl rfl ?_
  refine SXL.assign rfl ?_
  refine SXL.assign rfl ?_
  refine SXL.nil ?_
  refine thenQ.normal ?_
  refine SX.seq ?_
  refine SX.region ?_
  refine SXL.move rfl ?_
  refine SXL.len is_33 rfl ?_
  refine SXL.gtr rfl rfl ?_
  refine SXL.assign rfl ?_
  refine SXL.nil ?_
  refine thenQ.normal ?_
  refine SX.ret ?_
  refine retQ.one (ResAt.tmp rfl) ?_
  exact congrArg Value.bool (decide_eq_decide.2 (len_pos_iff _))
theorem told_any (s : Sp) (bo ro : Option Addr) (bc rc : Nat) (week : Int) (w : World) (hs : SpAt w s bo ro) :
    CallsR Tryd.prog 105 [.agg ⟨[.int .i64 s.weeks, .int .i64 s.most, .int .i64 s.fall, .int .i64 s.a0, .int .i64 s.a1, .int .i64 s.w0, .int .i64 s.w1, (.slice bo s.book.length bc), (.slice ro s.reads.length rc)]⟩, .int .i64 week] w (RnR3 (toldL s week) (toldA s week) (toldE s week)) := by
  refine CallsR.of_SX (n := 28) (rs := [.tmp 4, .tmp 5, .tmp 6]) Tryd.func105 rfl rfl rfl rfl ?_
  show SX _ _ _ ⟨[(0, .agg ⟨[.int .i64 s.weeks, .int .i64 s.most, .int .i64 s.fall, .int .i64 s.a0, .int .i64 s.a1, .int .i64 s.w0, .int .i64 s.w1, (.slice bo s.book.length bc), (.slice ro s.reads.length rc)]⟩), (1, .int .i64 week)], [], []⟩
  refine SX.seq ?_
  refine SX.region ?_
  refine SXL.box rfl rfl ?_; intro b0
  refine SXL.assign rfl ?_
  refine SXL.assign rfl ?_
  refine SXL.assign rfl ?_
  refine SXL.nil ?_
  refine thenQ.normal ?_
  refine SX.seq ?_
  refine SX.seq ?_
  refine SX.region ?_
  refine SXL.loadNo 0 sh_68 rfl rfl rfl ?_
  refine SXL.call1 (.bool (decide (SpP s))) fn_87 rfl (fun w hI => spring_any s bo ro _ _ _ (hs.inv hI)) ?_
  refine SXL.not rfl ?_
  refine SXL.nil ?_
  refine thenQ.normal ?_
  refine SX.condP rfl (fun c11 => ?_) (fun c11 => ?_)
  · refine SX.seq ?_
    refine SX.region ?_
    refine SXL.assign rfl ?_
    refine SXL.assign rfl ?_
    refine SXL.assign rfl ?_
    refine SXL.nil ?_
    refine thenQ.normal ?_
    refine SX.ret ?_
    refine thenQ.ret ?_
    refine retQ.dead [Sl.nil.ent 3 [], Sl.nil.ent 155 []] rfl ?_
    refine retQ.three (ResAt.tmp rfl) (ResAt.tmp rfl) (ResAt.tmp rfl) ?_
    exact RnR3.errs (toldE_bad c11) (by omega)
  · refine SX.skip ?_
    refine thenQ.normal ?_
    refine SX.seq ?_
    refine SX.seq ?_
    have hv := Decidable.not_not.1 c11
    have hH := hv.1
    unfold HeadP at hH
    refine SX.region ?_
    refine SXL.move rfl ?_
    refine SXL.fieldAddr fp_68_0 rfl ?_
    refine SXL.load1o 0 sh_3 rfl rfl rfl ?_
    refine SXL.sub rfl rfl (by omega) ?_
    refine SXL.call1 (.bool (decide (Wi week 0 (s.weeks - 1)))) fn_101 rfl (fun w hI => within_any _ _ _ _) ?_
    refine SXL.not rfl ?_
    refine SXL.nil ?_
    refine thenQ.normal ?_
    refine SX.condP rfl (fun c17 => ?_) (fun c17 => ?_)
    · refine SX.seq ?_
      refine SX.region ?_
      refine SXL.assign rfl ?_
      refine SXL.assign rfl ?_
      refine SXL.assign rfl ?_
      refine SXL.nil ?_
      refine thenQ.normal ?_
      refine SX.ret ?_
      refine thenQ.ret ?_
      refine retQ.dead [Sl.nil.ent 3 [], Sl.nil.ent 155 []] rfl ?_
      refine retQ.three (ResAt.tmp rfl) (ResAt.tmp rfl) (ResAt.tmp rfl) ?_
      exact RnR3.errs (toldE_week hv c17) (by omega)
    · refine SX.skip ?_
      refine thenQ.normal ?_
      refine SX.seq ?_
      have hwk := Decidable.not_not.1 c17
      refine SX.region ?_
      refine SXL.loadNo 0 sh_68 rfl rfl rfl ?_
      refine SXL.callF (RnR (rnsL s (baseL s)) (lvsL s (baseL s) (rnsL s (baseL s)))) fn_107 rfl (fun w hI => rains_any s bo ro _ _ hv _ (hs.inv hI)) ?_; rintro _ _ ⟨r1, r2, o1, o2, rfl, rfl⟩
      refine SXL.move rfl ?_
      refine SXL.extract rfl rfl ?_
      refine SXL.extract rfl rfl ?_
      refine SXL.assign rfl ?_
      refine SXL.assign rfl ?_
      refine SXL.nil ?_
      refine thenQ.normal ?_
      refine SX.seq ?_
      refine SX.seq ?_
      refine SX.region ?_
      refine SXL.move rfl ?_
      refine SXL.len is_33 rfl ?_
      refine SXL.eqlI rfl rfl ?_
      refine SXL.nil ?_
      refine thenQ.normal ?_
      refine SX.condP rfl (fun c25 => ?_) (fun c25 => ?_)
      · refine SX.seq ?_
        refine SX.region ?_
        refine SXL.assign rfl ?_
        refine SXL.assign rfl ?_
        refine SXL.assign rfl ?_
        refine SXL.nil ?_
        refine thenQ.normal ?_
        refine SX.ret ?_
        refine thenQ.ret ?_
        refine retQ.dead [Sl.nil.ent 3 [], Sl.nil.ent 155 []] rfl ?_
        refine retQ.three (ResAt.tmp rfl) (ResAt.tmp rfl) (ResAt.tmp rfl) ?_
        exact RnR3.errs (toldE_none hv hwk (List.eq_nil_of_length_eq_zero (by omega))) (by omega)
      · refine SX.skip ?_
        refine thenQ.normal ?_
        refine SX.seq ?_
        refine SX.region ?_
        refine SXL.move rfl ?_
        refine SXL.move rfl ?_
        refine SXL.assign rfl ?_
        refine SXL.assign rfl ?_
        refine SXL.assign rfl ?_
        refine SXL.nil ?_
        refine thenQ.normal ?_
        refine SX.ret ?_
        refine retQ.sel [1, 2] rfl rfl ?_
        refine retQ.three (ResAt.tmp rfl) (ResAt.tmp rfl) (ResAt.tmp rfl) ?_
        have he := toldE_ok hv hwk (fun h => c25 (by rw [h]; rfl)); have hl := toldL_ok he; exact ⟨r1, r2, by rw [hl]; exact o1, by rw [toldA, hl]; exact o2, by rw [he, toldA, hl], by rw [toldA, hl]⟩
theorem gives_any (s : Sp) (bo ro : Option Addr) (bc rc : Nat) (week : Int) (w : World) (hs : SpAt w s bo ro) :
    CallsR Tryd.prog 89 [.agg ⟨[.int .i64 s.weeks, .int .i64 s.most, .int .i64 s.fall, .int .i64 s.a0, .int .i64 s.a1, .int .i64 s.w0, .int .i64 s.w1, (.slice bo s.book.length bc), (.slice ro s.reads.length rc)]⟩, .int .i64 week] w (fun v _ => v = .tuple ⟨[.agg ⟨[.int .i64 ((givesLo s week)), .int .i64 ((givesHi s week))]⟩, .int .i64 (toldE s week)]⟩) := by
  refine CallsR.of_SX (n := 23) (rs := [.cell 4 55, .tmp 5]) Tryd.func89 rfl rfl rfl rfl ?_
  show SX _ _ _ ⟨[(0, .agg ⟨[.int .i64 s.weeks, .int .i64 s.most, .int .i64 s.fall, .int .i64 s.a0, .int .i64 s.a1, .int .i64 s.w0, .int .i64 s.w1, (.slice bo s.book.length bc), (.slice ro s.reads.length rc)]⟩), (1, .int .i64 week)], [], []⟩
  refine SX.seq ?_
  refine SX.region ?_
  refine SXL.box rfl rfl ?_; intro b0
  refine SXL.alloc zp_55 ?_; intro b1
  refine SXL.assign rfl ?_
  refine SXL.nil ?_
  refine thenQ.normal ?_
  refine SX.seq ?_
  refine SX.region ?_
  refine SXL.loadNo 0 sh_68 rfl rfl rfl ?_
  refine SXL.move rfl ?_
  refine SXL.callF (RnR3 (toldL s week) (toldA s week) (toldE s week)) fn_105 rfl (fun w hI => told_any s bo ro _ _ _ _ (hs.inv hI)) ?_; rintro _ _ ⟨r1, r2, o1, o2, rfl, rfl⟩
  refine SXL.move rfl ?_
  refine SXL.extract rfl rfl ?_
  refine SXL.extract rfl rfl ?_
  refine SXL.extract rfl rfl ?_
  refine SXL.assign rfl ?_
  refine SXL.assign rfl ?_
  refine SXL.assign rfl ?_
  refine SXL.nil ?_
  refine thenQ.normal ?_
  refine SX.seq ?_
  refine SX.seq ?_
  refine SX.region ?_
  refine SXL.move rfl ?_
  refine SXL.neqI rfl rfl ?_
  refine SXL.nil ?_
  refine thenQ.normal ?_
  refine SX.condP rfl (fun c17 => ?_) (fun c17 => ?_)
  · refine SX.seq ?_
    refine SX.region ?_
    refine SXL.buildS pl_55 zp_55 rfl rfl ?_
    refine SXL.move rfl ?_
    refine SXL.store 1 sz_55 rfl rfl rfl rfl rfl rfl ?_
    refine SXL.assign rfl ?_
    refine SXL.nil ?_
    refine thenQ.normal ?_
    refine SX.ret ?_
    refine thenQ.ret ?_
    refine retQ.two (ResAt.cellNo 1 sh_55 rfl rfl rfl) (ResAt.tmp rfl) ?_
    rw [givesLo, givesHi, if_neg c17, if_neg c17]
  · refine SX.skip ?_
    refine thenQ.normal ?_
    refine SX.seq ?_
    refine SX.region ?_
    refine SXL.move rfl ?_
    refine SXL.move rfl ?_
    have he := Decidable.not_not.1 c17
    obtain ⟨hv, hwk, hne⟩ := toldE_valid he
    have hA0 : 0 < (toldA s week).length := by rw [toldA, toldL_ok he, lvsL, List.length_map]; exact List.length_pos_iff.2 hne
    obtain ⟨wk, rfl⟩ := Int.eq_ofNat_of_zero_le hwk.1
    have hH := hv.1
    unfold HeadP at hH
    refine SXL.call1 (.agg ⟨[.int .i64 ((hLo (toldA s wk) wk)), .int .i64 ((hHi (toldA s wk) wk))]⟩) fn_106 rfl (fun w hI => hull_any _ (toldA_len _) hA0 (toldA_max he) wk (by omega) _ _ _ (slRows (i := 3) hI (toldA_len _) o2 rfl)) ?_
    refine SXL.store 1 sz_55 rfl rfl rfl rfl rfl rfl ?_
    refine SXL.assign rfl ?_
    refine SXL.nil ?_
    refine thenQ.normal ?_
    refine SX.ret ?_
    refine retQ.two (ResAt.cellNo 1 sh_55 rfl rfl rfl) (ResAt.tmp rfl) ?_
    rw [givesLo, givesHi, if_pos he, if_pos he, he]; rfl
end Go.Proofs.YtolcicaclflagaaDoor

/- The walks of the reference of layer 9: supplies. -/
namespace Go.Proofs.YtolcicaclflagaaDoor
open Go.X Go.S Go.T Go.RowKit
theorem within9_any (n lo hi : Int) (w : World) :
    CallsR Tryd.prog 62 [.int .i64 n, .int .i64 lo, .int .i64 hi] w (fun v _ => v = .bool (decide (Wi n lo hi))) := by
  refine CallsR.of_SX (n := 15) (rs := [.tmp 6]) Tryd.func62 rfl rfl rfl rfl ?_
  show SX _ _ _ ⟨[(0, .int .i64 n), (1, .int .i64 lo), (2, .int .i64 hi)], [], []⟩
  refine SX.seq ?_
  refine SX.region ?_
  refine SXL.assign rfl ?_
  refine SXL.nil ?_
  refine thenQ.normal ?_
  refine SX.seq ?_
  refine SX.region ?_
  refine SXL.move rfl ?_
  refine SXL.move rfl ?_
  refine SXL.geq rfl rfl ?_
  refine SXL.move rfl ?_
  apply SXL.andG 3
  case hl => exact rfl
  case hd => exact rfl
  case hg => exact rfl
  case ht =>
    intro g1
    refine SXL.move rfl ?_
    refine SXL.move rfl ?_
    refine SXL.leq rfl rfl ?_
    exact SXL.nil (segQ.mk (.skip rfl (.skip rfl (.skip rfl (.skip rfl (EnvSub.refl _))))) rfl rfl ⟨rfl, rfl⟩)
  case hf =>
    intro g1
    refine SXL.pass rfl rfl rfl ?_
    refine SXL.pass rfl rfl rfl ?_
    refine SXL.pass rfl rfl rfl ?_
    exact SXL.nil (segQ.mk (.skip rfl (.skip rfl (.skip rfl (.skip rfl (EnvSub.refl _))))) rfl rfl rfl)
  refine SXL.assign rfl ?_
  refine SXL.nil ?_
  refine thenQ.normal ?_
  refine SX.ret ?_
  refine retQ.one (ResAt.tmp rfl) ?_
  first | rfl | assumption
theorem rfount_any (u : Su) (fo so : Option Addr) (fc sc : Nat) (fa : Nat → FA) (sa : Nat → DA) (id : Int) (hl : LitP u) (w : World) (hs : SuAt w u fo so fa sa) :
    CallsR Tryd.prog 65 [.agg ⟨[.slice fo u.founts.length fc, .slice so u.streets.length sc]⟩, .int .i64 id] w (fun v _ => v = .int .i64 (fountI u id)) := by
  have hL0 := hl.1
  have hL1 := hl.2.1
  have hL2 := hl.2.2
  refine CallsR.of_SX (n := 22) (rs := [.tmp 4]) Tryd.func65 rfl rfl rfl rfl ?_
  show SX _ _ _ ⟨[(0, .agg ⟨[.slice fo u.founts.length fc, .slice so u.streets.length sc]⟩), (1, .int .i64 id)], [], []⟩
  refine SX.seq ?_
  refine SX.region ?_
  refine SXL.box rfl rfl ?_; intro b0
  refine SXL.assign rfl ?_
  refine SXL.nil ?_
  refine thenQ.normal ?_
  refine SX.seq ?_
  refine SX.seq ?_
  refine SX.region ?_
  refine SXL.assign rfl ?_
  refine SXL.nil ?_
  refine thenQ.normal ?_
  refine SX.block ?_
  refine SX.loopG (α := Nat) [1, 2, 4] rfl (fun k => [(5, .int .i64 ((k : Int)))]) (fun k => []) (fun k => k ≤ u.founts.length ∧ ∀ i, i < k → ¬(u.founts.getD i default).id = id) (fun k => u.founts.length - k) 0 ⟨Nat.zero_le _, fun _ h => absurd h (Nat.not_lt_zero _)⟩ ⟨rfl, trivial⟩ rfl ?_
  rintro k ⟨hk, hall⟩
  refine SX.seq ?_
  refine SX.seq ?_
  refine SX.region ?_
  refine SXL.move rfl ?_
  refine SXL.fieldAddr fp_25_0 rfl ?_
  refine SXL.load1o 0 sh_22 rfl rfl rfl ?_
  refine SXL.len is_22 rfl ?_
  refine SXL.lss rfl rfl ?_
  refine SXL.nil ?_
  refine thenQ.normal ?_
  refine SX.condP rfl (fun c10 => ?_) (fun c10 => ?_)
  · refine SX.skip ?_
    refine thenQ.normal ?_
    refine SX.seq ?_
    refine SX.block ?_
    refine SX.seq ?_
    obtain ⟨b, o, ha, hm⟩ := hs.fount (i := k) (by omega)
    refine SX.region ?_
    refine SXL.fieldAddr fp_25_0 rfl ?_
    refine SXL.load1o 0 sh_22 rfl rfl rfl ?_
    refine SXL.move rfl ?_
    refine SXL.indexR el_22 rfl rfl ha (by omega) ?_
    refine SXL.fieldAddr fp_70_0 rfl ?_
    refine SXL.load1 sh_3 rfl ((hm _).sub (j := 0) (k := 1) rfl) ?_
    refine SXL.move rfl ?_
    refine SXL.eqlI rfl rfl ?_
    refine SXL.nil ?_
    refine thenQ.normal ?_
    refine SX.condP rfl (fun c20 => ?_) (fun c20 => ?_)
    · refine SX.seq ?_
      refine SX.region ?_
      refine SXL.move rfl ?_
      refine SXL.assign rfl ?_
      refine SXL.nil ?_
      refine thenQ.normal ?_
      refine SX.ret ?_
      refine blockQ.ret ?_
      refine thenQ.ret ?_
      refine thenQ.ret ?_
      refine blockQ.ret ?_
      refine thenQ.ret ?_
      refine retQ.one (ResAt.tmp rfl) ?_
      exact congrArg (Value.int .i64) (idxF_some (by omega) c20 hall).symm
    · refine SX.skip ?_
      refine blockQ.normal ?_
      refine thenQ.normal ?_
      refine SX.region ?_
      refine SXL.move rfl ?_
      refine SXL.add rfl rfl (by omega) ?_
      refine SXL.assign rfl ?_
      refine SXL.nil ?_
      refine thenQ.normal ?_
      refine ⟨k + 1, Meets.mk _ ⟨rfl, trivial⟩ ⟨rfl, rfl, rfl, trivial⟩ rfl, ?_, (by omega)⟩
      refine ⟨by omega, fun i hi => ?_⟩
      by_cases e : i = k
      · subst e; exact c20
      · exact hall i (by omega)
  · refine SX.exit ?_
    refine thenQ.exit ?_
    refine thenQ.exit ?_
    refine blockQ.exit ?_
    refine thenQ.normal ?_
    refine SX.seq ?_
    refine SX.region ?_
    refine SXL.assign rfl ?_
    refine SXL.nil ?_
    refine thenQ.normal ?_
    refine SX.ret ?_
    refine retQ.one (ResAt.tmp rfl) ?_
    exact congrArg (Value.int .i64) (idxF_none fun i hi => hall i (by omega)).symm
set_option maxHeartbeats 1000000 in
theorem supply_any (u : Su) (fo so : Option Addr) (fc sc : Nat) (fa : Nat → FA) (sa : Nat → DA) (hl : LitP u) (w : World) (hs : SuAt w u fo so fa sa) :
    CallsR Tryd.prog 40 [.agg ⟨[.slice fo u.founts.length fc, .slice so u.streets.length sc]⟩] w (fun v _ => v = .bool (decide (SuP u))) := by
  have hL0 := hl.1
  have hL1 := hl.2.1
  have hL2 := hl.2.2
  refine CallsR.of_SX (n := 112) (rs := [.tmp 2]) Tryd.func40 rfl rfl rfl rfl ?_
  show SX _ _ _ ⟨[(0, .agg ⟨[.slice fo u.founts.length fc, .slice so u.streets.length sc]⟩)], [], []⟩
  refine SX.seq ?_
  refine SX.region ?_
  refine SXL.box rfl rfl ?_; intro b0
  refine SXL.assign rfl ?_
  refine SXL.nil ?_
  refine thenQ.normal ?_
  refine SX.seq ?_
  refine SX.seq ?_
  refine SX.region ?_
  refine SXL.fieldAddr fp_25_0 rfl ?_
  refine SXL.load1o 0 sh_22 rfl rfl rfl ?_
  refine SXL.len is_22 rfl ?_
  refine SXL.call1 (.bool (decide (Wi ((u.founts.length : Int)) (1) (4)))) fn_62 rfl (fun w hI => within9_any _ _ _ _) ?_
  refine SXL.not rfl ?_
  refine SXL.move rfl ?_
  apply SXL.orG 4
  case hl => exact rfl
  case hd => exact rfl
  case hg => exact rfl
  case ht =>
    intro c20
    refine SXL.pass rfl rfl rfl ?_
    refine SXL.pass rfl rfl rfl ?_
    refine SXL.pass rfl rfl rfl ?_
    refine SXL.pass rfl rfl rfl ?_
    exact SXL.nil (segQ.mk (.skip rfl (.skip rfl (.skip rfl (.skip rfl (.skip rfl (EnvSub.refl _)))))) rfl rfl rfl)
  case hf =>
    intro c20
    refine SXL.fieldAddr fp_25_1 rfl ?_
    refine SXL.load1o 0 sh_23 rfl rfl rfl ?_
    refine SXL.len is_23 rfl ?_
    refine SXL.gtr rfl rfl ?_
    exact SXL.nil (segQ.mk (.skip rfl (.skip rfl (.skip rfl (.skip rfl (.skip rfl (EnvSub.refl _)))))) rfl rfl ⟨rfl, rfl⟩)
  refine SXL.nil ?_
  refine thenQ.normal ?_
  refine SX.condP rfl (fun c20 => ?_) (fun c20 => ?_)
  · refine SX.seq ?_
    refine SX.region ?_
    refine SXL.assign rfl ?_
    refine SXL.nil ?_
    refine thenQ.normal ?_
    refine SX.ret ?_
    refine thenQ.ret ?_
    refine retQ.one (ResAt.tmp rfl) ?_
    exact congrArg Value.bool (decide_eq_false (by intro h; have h1 := h.1; unfold SizeP at h1; omega)).symm
  · refine SX.skip ?_
    refine thenQ.normal ?_
    refine SX.seq ?_
    refine SX.region ?_
    refine SXL.assign rfl ?_
    refine SXL.nil ?_
    refine thenQ.normal ?_
    refine SX.seq ?_
    refine SX.seq ?_
    refine SX.region ?_
    refine SXL.fieldAddr fp_25_0 rfl ?_
    refine SXL.load1o 0 sh_22 rfl rfl rfl ?_
    refine SXL.len is_22 rfl ?_
    refine SXL.move rfl ?_
    refine SXL.nil ?_
    refine thenQ.normal ?_
    refine SX.block ?_
    refine SX.loopG (α := Nat) [1, 2, 22, 23] rfl (fun k => [(24, .int .i64 ((k : Int))), (3, .int .i64 ((lastF u k)))]) (fun k => []) (fun k => k ≤ u.founts.length ∧ ∀ i, i < k → FoP (lastF u i) (u.founts.getD i default)) (fun k => u.founts.length - k) 0 ⟨Nat.zero_le _, fun _ h => absurd h (Nat.not_lt_zero _)⟩ ⟨rfl, rfl, trivial⟩ rfl ?_
    rintro k ⟨hk, hall⟩
    refine SX.seq ?_
    refine SX.region ?_
    refine SXL.lss rfl rfl ?_
    refine SXL.nil ?_
    refine thenQ.normal ?_
    refine SX.seq ?_
    refine SX.condP rfl (fun c25 => ?_) (fun c25 => ?_)
    · refine SX.skip ?_
      refine thenQ.normal ?_
      refine SX.seq ?_
      refine SX.block ?_
      refine SX.seq ?_
      obtain ⟨b, o, ha, hm⟩ := hs.fount (i := k) (by omega)
      have hla := lastF_in hall
      refine SX.region ?_
      refine SXL.indexR el_22 rfl rfl ha (by omega) ?_
      refine SXL.loadN sh_70 rfl (hm _) rfl ?_
      refine SXL.alloc zp_70 ?_; intro b1
      refine SXL.store 1 sz_70 rfl rfl rfl rfl rfl rfl ?_
      refine SXL.nil ?_
      refine thenQ.normal ?_
      refine SX.seq ?_
      refine SX.seq ?_
      refine SX.region ?_
      refine SXL.fieldAddr fp_70_0 rfl ?_
      refine SXL.load1o 1 sh_3 rfl rfl rfl ?_
      refine SXL.move rfl ?_
      refine SXL.add rfl rfl (by omega) ?_
      refine SXL.call1 (.bool (decide (Wi ((u.founts.getD k default).id) (lastF u k + 1) (9999)))) fn_62 rfl (fun w hI => within9_any _ _ _ _) ?_
      refine SXL.not rfl ?_
      refine SXL.move rfl ?_
      apply SXL.orG 4
      case hl => exact rfl
      case hd => exact rfl
      case hg => exact rfl
      case ht =>
        intro c39
        refine SXL.pass rfl rfl rfl ?_
        refine SXL.pass rfl rfl rfl ?_
        refine SXL.pass rfl rfl rfl ?_
        refine SXL.pass rfl rfl rfl ?_
        exact SXL.nil (segQ.mk (.skip rfl (.skip rfl (.skip rfl (.skip rfl (.skip rfl (EnvSub.refl _)))))) rfl rfl rfl)
      case hf =>
        intro c39
        refine SXL.fieldAddr fp_70_1 rfl ?_
        refine SXL.loadNo 1 sh_68 rfl rfl rfl ?_
        refine SXL.call1 (.bool (decide (SpP ((u.founts.getD k default).sp)))) fn_87 rfl (fun w hI => spring_any ((u.founts.getD k default).sp) (fa k).bo (fa k).ro (fa k).bc (fa k).rc w ((hs.springs k (by omega)).inv hI)) ?_
        refine SXL.not rfl ?_
        exact SXL.nil (segQ.mk (.skip rfl (.skip rfl (.skip rfl (.skip rfl (.skip rfl (EnvSub.refl _)))))) rfl rfl ⟨rfl, rfl⟩)
      refine SXL.nil ?_
      refine thenQ.normal ?_
      refine SX.condP rfl (fun c39 => ?_) (fun c39 => ?_)
      · refine SX.seq ?_
        refine SX.region ?_
        refine SXL.assign rfl ?_
        refine SXL.nil ?_
        refine thenQ.normal ?_
        refine SX.ret ?_
        refine thenQ.ret ?_
        refine blockQ.ret ?_
        refine thenQ.ret ?_
        refine thenQ.ret ?_
        refine blockQ.ret ?_
        refine thenQ.ret ?_
        refine retQ.one (ResAt.tmp rfl) ?_
        exact congrArg Value.bool (decide_eq_false (by intro h; have h1 := h.2.1 k (by omega); rcases c39 with c | c; omega; exact c h1.2)).symm
      · refine SX.skip ?_
        refine thenQ.normal ?_
        refine SX.region ?_
        refine SXL.fieldAddr fp_70_0 rfl ?_
        refine SXL.load1o 1 sh_3 rfl rfl rfl ?_
        refine SXL.assign rfl ?_
        refine SXL.nil ?_
        refine blockQ.normal ?_
        refine thenQ.normal ?_
        refine SX.region ?_
        refine SXL.add rfl rfl (by omega) ?_
        refine SXL.move rfl ?_
        refine SXL.nil ?_
        refine thenQ.normal ?_
        refine ⟨k + 1, Meets.mk _ ⟨rfl, rfl, trivial⟩ ⟨rfl, rfl, rfl, rfl, trivial⟩ rfl, ?_, (by omega)⟩
        refine ⟨by omega, fun i hi => ?_⟩
        by_cases e : i = k
        · subst e; obtain ⟨c1, c2⟩ := not_or.1 c39
          exact ⟨by omega, Decidable.not_not.1 c2⟩
        · exact hall i (by omega)
    · refine SX.exit ?_
      refine thenQ.exit ?_
      refine thenQ.exit ?_
      refine blockQ.exit ?_
      refine thenQ.normal ?_
      refine SX.seq ?_
      obtain rfl : k = u.founts.length := by omega
      have hF : FountsP u := fun i hi => hall i hi
      refine SX.region ?_
      refine SXL.assign rfl ?_
      refine SXL.nil ?_
      refine thenQ.normal ?_
      refine SX.seq ?_
      refine SX.seq ?_
      refine SX.region ?_
      refine SXL.fieldAddr fp_25_1 rfl ?_
      refine SXL.load1o 0 sh_23 rfl rfl rfl ?_
      refine SXL.len is_23 rfl ?_
      refine SXL.move rfl ?_
      refine SXL.nil ?_
      refine thenQ.normal ?_
      refine SX.block ?_
      refine SX.loopG (α := Nat) [1, 2, 44, 45] rfl (fun k => [(46, .int .i64 ((k : Int))), (3, .int .i64 ((lastR u k)))]) (fun k => []) (fun k => k ≤ u.streets.length ∧ ∀ i, i < k → SrP u (lastR u i) (u.streets.getD i default)) (fun k => u.streets.length - k) 0 ⟨Nat.zero_le _, fun _ h => absurd h (Nat.not_lt_zero _)⟩ ⟨rfl, rfl, trivial⟩ rfl ?_
      rintro k ⟨hk2, hall2⟩
      refine SX.seq ?_
      refine SX.region ?_
      refine SXL.lss rfl rfl ?_
      refine SXL.nil ?_
      refine thenQ.normal ?_
      refine SX.seq ?_
      refine SX.condP rfl (fun c47 => ?_) (fun c47 => ?_)
      · refine SX.skip ?_
        refine thenQ.normal ?_
        refine SX.seq ?_
        refine SX.block ?_
        refine SX.seq ?_
        obtain ⟨b, o, ha, hm⟩ := hs.street (i := k) (by omega)
        have hLk := hL2 k (by omega)
        have hla := lastR_in hall2
        refine SX.region ?_
        refine SXL.indexR el_23 rfl rfl ha (by omega) ?_
        refine SXL.loadN sh_73 rfl (hm _) rfl ?_
        refine SXL.alloc zp_73 ?_; intro b1
        refine SXL.store 1 sz_73 rfl rfl rfl rfl rfl rfl ?_
        refine SXL.nil ?_
        refine thenQ.normal ?_
        refine SX.seq ?_
        refine SX.seq ?_
        refine SX.region ?_
        refine SXL.fieldAddr fp_73_0 rfl ?_
        refine SXL.load1o 1 sh_3 rfl rfl rfl ?_
        refine SXL.move rfl ?_
        refine SXL.add rfl rfl (by omega) ?_
        refine SXL.call1 (.bool (decide (Wi ((u.streets.getD k default).id) (lastR u k + 1) (9999)))) fn_62 rfl (fun w hI => within9_any _ _ _ _) ?_
        refine SXL.not rfl ?_
        refine SXL.move rfl ?_
        apply SXL.orG 5
        case hl => exact rfl
        case hd => exact rfl
        case hg => exact rfl
        case ht =>
          intro g7
          refine SXL.pass rfl rfl rfl ?_
          refine SXL.pass rfl rfl rfl ?_
          refine SXL.pass rfl rfl rfl ?_
          refine SXL.pass rfl rfl rfl ?_
          refine SXL.pass rfl rfl rfl ?_
          exact SXL.nil (segQ.mk (.skip rfl (.skip rfl (.skip rfl (.skip rfl (.skip rfl (.skip rfl (EnvSub.refl _))))))) rfl rfl rfl)
        case hf =>
          intro g7
          refine SXL.fieldAddr fp_73_1 rfl ?_
          refine SXL.fieldAddr fp_55_1 rfl ?_
          refine SXL.load1o 1 sh_3 rfl rfl rfl ?_
          refine SXL.call1 (.bool (decide (Wi ((u.streets.getD k default).n1) (0) (100)))) fn_62 rfl (fun w hI => within9_any _ _ _ _) ?_
          refine SXL.not rfl ?_
          exact SXL.nil (segQ.mk (.skip rfl (.skip rfl (.skip rfl (.skip rfl (.skip rfl (.skip rfl (EnvSub.refl _))))))) rfl rfl ⟨rfl, rfl⟩)
        refine SXL.move rfl ?_
        apply SXL.orG 8
        case hl => exact rfl
        case hd => exact rfl
        case hg => exact rfl
        case ht =>
          intro g8
          refine SXL.pass rfl rfl rfl ?_
          refine SXL.pass rfl rfl rfl ?_
          refine SXL.pass rfl rfl rfl ?_
          refine SXL.pass rfl rfl rfl ?_
          refine SXL.pass rfl rfl rfl ?_
          refine SXL.pass rfl rfl rfl ?_
          refine SXL.pass rfl rfl rfl ?_
          refine SXL.pass rfl rfl rfl ?_
          exact SXL.nil (segQ.mk (.skip rfl (.skip rfl (.skip rfl (.skip rfl (.skip rfl (.skip rfl (.skip rfl (.skip rfl (.skip rfl (EnvSub.refl _)))))))))) rfl rfl rfl)
        case hf =>
          intro g8
          refine SXL.fieldAddr fp_73_1 rfl ?_
          refine SXL.fieldAddr fp_55_0 rfl ?_
          refine SXL.load1o 1 sh_3 rfl rfl rfl ?_
          refine SXL.fieldAddr fp_73_1 rfl ?_
          refine SXL.fieldAddr fp_55_1 rfl ?_
          refine SXL.load1o 1 sh_3 rfl rfl rfl ?_
          refine SXL.call1 (.bool (decide (Wi ((u.streets.getD k default).n0) (0) ((u.streets.getD k default).n1)))) fn_62 rfl (fun w hI => within9_any _ _ _ _) ?_
          refine SXL.not rfl ?_
          exact SXL.nil (segQ.mk (.skip rfl (.skip rfl (.skip rfl (.skip rfl (.skip rfl (.skip rfl (.skip rfl (.skip rfl (.skip rfl (EnvSub.refl _)))))))))) rfl rfl ⟨rfl, rfl⟩)
        refine SXL.move rfl ?_
        apply SXL.orG 7
        case hl => exact rfl
        case hd => exact rfl
        case hg => exact rfl
        case ht =>
          intro c81
          refine SXL.pass rfl rfl rfl ?_
          refine SXL.pass rfl rfl rfl ?_
          refine SXL.pass rfl rfl rfl ?_
          refine SXL.pass rfl rfl rfl ?_
          refine SXL.pass rfl rfl rfl ?_
          refine SXL.pass rfl rfl rfl ?_
          refine SXL.pass rfl rfl rfl ?_
          exact SXL.nil (segQ.mk (.skip rfl (.skip rfl (.skip rfl (.skip rfl (.skip rfl (.skip rfl (.skip rfl (.skip rfl (EnvSub.refl _))))))))) rfl rfl rfl)
        case hf =>
          intro c81
          refine SXL.fieldAddr fp_73_2 rfl ?_
          refine SXL.load1o 1 sh_3 rfl rfl rfl ?_
          refine SXL.fieldAddr fp_73_1 rfl ?_
          refine SXL.fieldAddr fp_55_0 rfl ?_
          refine SXL.load1o 1 sh_3 rfl rfl rfl ?_
          refine SXL.call1 (.bool (decide (Wi ((u.streets.getD k default).least) (0) ((u.streets.getD k default).n0)))) fn_62 rfl (fun w hI => within9_any _ _ _ _) ?_
          refine SXL.not rfl ?_
          exact SXL.nil (segQ.mk (.skip rfl (.skip rfl (.skip rfl (.skip rfl (.skip rfl (.skip rfl (.skip rfl (.skip rfl (EnvSub.refl _))))))))) rfl rfl ⟨rfl, rfl⟩)
        refine SXL.nil ?_
        refine thenQ.normal ?_
        refine SX.condP rfl (fun c81 => ?_) (fun c81 => ?_)
        · refine SX.seq ?_
          refine SX.region ?_
          refine SXL.assign rfl ?_
          refine SXL.nil ?_
          refine thenQ.normal ?_
          refine SX.ret ?_
          refine thenQ.ret ?_
          refine blockQ.ret ?_
          refine thenQ.ret ?_
          refine thenQ.ret ?_
          refine blockQ.ret ?_
          refine thenQ.ret ?_
          refine retQ.one (ResAt.tmp rfl) ?_
          exact congrArg Value.bool (decide_eq_false (by intro h; have h1 := h.2.2 k (by omega); have h4 := h1.1; have h2 := h1.2.1; have h3 := h1.2.2.1; omega)).symm
        · refine SX.skip ?_
          refine thenQ.normal ?_
          refine SX.seq ?_
          refine SX.seq ?_
          refine SX.region ?_
          refine SXL.fieldAddr fp_73_3 rfl ?_
          refine SXL.load1o 1 sh_33 rfl rfl rfl ?_
          refine SXL.len is_33 rfl ?_
          refine SXL.move rfl ?_
          refine SXL.nil ?_
          refine thenQ.normal ?_
          refine SX.block ?_
          refine SX.loopG (α := Nat) [1, 2, 7, 44, 45, 46, 83, 84] rfl (fun j => [(85, .int .i64 ((j : Int)))]) (fun j => []) (fun j => j ≤ (u.streets.getD k default).draws.length ∧ ∀ i, i < j → HasF u ((u.streets.getD k default).draws.getD i 0) ∧ (0 < i → (u.streets.getD k default).draws.getD (i - 1) 0 < (u.streets.getD k default).draws.getD i 0)) (fun j => (u.streets.getD k default).draws.length - j) 0 ⟨Nat.zero_le _, fun _ h => absurd h (Nat.not_lt_zero _)⟩ ⟨rfl, trivial⟩ rfl ?_
          rintro j ⟨hj, hall3⟩
          refine SX.seq ?_
          refine SX.region ?_
          refine SXL.lss rfl rfl ?_
          refine SXL.nil ?_
          refine thenQ.normal ?_
          refine SX.seq ?_
          refine SX.condP rfl (fun c86 => ?_) (fun c86 => ?_)
          · refine SX.skip ?_
            refine thenQ.normal ?_
            refine SX.seq ?_
            refine SX.block ?_
            refine SX.seq ?_
            obtain ⟨bd, od, had, hmd⟩ := oneI (hs.draws k (by omega)) (i := j) (by omega)
            refine SX.region ?_
            refine SXL.move rfl ?_
            refine SXL.indexR el_33 rfl rfl had (by omega) ?_
            refine SXL.load1 sh_3 rfl (hmd _) ?_
            refine SXL.assign rfl ?_
            refine SXL.assign rfl ?_
            refine SXL.nil ?_
            refine thenQ.normal ?_
            refine SX.seq ?_
            refine SX.region ?_
            refine SXL.loadNo 0 sh_25 rfl rfl rfl ?_
            refine SXL.move rfl ?_
            refine SXL.call1 (.int .i64 (fountI u ((u.streets.getD k default).draws.getD j 0))) fn_65 rfl (fun w hI => rfount_any u fo so fc sc fa sa ((u.streets.getD k default).draws.getD j 0) hl w (hs.inv hI)) ?_
            refine SXL.lss rfl rfl ?_
            refine SXL.move rfl ?_
            apply SXL.orG 12
            case hl => exact rfl
            case hd => exact rfl
            case hg => exact rfl
            case ht =>
              intro c107
              refine SXL.pass rfl rfl rfl ?_
              refine SXL.pass rfl rfl rfl ?_
              refine SXL.pass rfl rfl rfl ?_
              refine SXL.pass rfl rfl rfl ?_
              refine SXL.pass rfl rfl rfl ?_
              refine SXL.pass rfl rfl rfl ?_
              refine SXL.pass rfl rfl rfl ?_
              refine SXL.pass rfl rfl rfl ?_
              refine SXL.pass rfl rfl rfl ?_
              refine SXL.pass rfl rfl rfl ?_
              refine SXL.pass rfl rfl rfl ?_
              refine SXL.pass rfl rfl rfl ?_
              exact SXL.nil (segQ.mk (.skip rfl (.skip rfl (.skip rfl (.skip rfl (.skip rfl (.skip rfl (.skip rfl (.skip rfl (.skip rfl (.skip rfl (.skip rfl (.skip rfl (.skip rfl (EnvSub.refl _)))))))))))))) rfl rfl rfl)
            case hf =>
              intro c107
              refine SXL.move rfl ?_
              refine SXL.gtr rfl rfl ?_
              refine SXL.move rfl ?_
              apply SXL.andG 8
              case hl => exact rfl
              case hd => exact rfl
              case hg => exact rfl
              case ht =>
                intro g13
                obtain ⟨bd2, od2, had2, hmd2⟩ := oneI (hs.draws k (by omega)) (i := ((j : Int) - 1).toNat) (by omega)
                refine SXL.fieldAddr fp_73_3 rfl ?_
                refine SXL.load1o 1 sh_33 rfl rfl rfl ?_
                refine SXL.move rfl ?_
                refine SXL.sub rfl rfl (by omega) ?_
                refine SXL.indexR el_33 rfl rfl had2 (by omega) ?_
                refine SXL.load1 sh_3 rfl (hmd2 _) ?_
                refine SXL.move rfl ?_
                refine SXL.geq rfl rfl ?_
                exact SXL.nil (segQ.mk (.skip rfl (.skip rfl (.skip rfl (.skip rfl (.skip rfl (.skip rfl (.skip rfl (.skip rfl (.skip rfl (EnvSub.refl _)))))))))) rfl rfl ⟨rfl, rfl⟩)
              case hf =>
                intro g13
                refine SXL.pass rfl rfl rfl ?_
                refine SXL.pass rfl rfl rfl ?_
                refine SXL.pass rfl rfl rfl ?_
                refine SXL.pass rfl rfl rfl ?_
                refine SXL.pass rfl rfl rfl ?_
                refine SXL.pass rfl rfl rfl ?_
                refine SXL.pass rfl rfl rfl ?_
                refine SXL.pass rfl rfl rfl ?_
                exact SXL.nil (segQ.mk (.skip rfl (.skip rfl (.skip rfl (.skip rfl (.skip rfl (.skip rfl (.skip rfl (.skip rfl (.skip rfl (EnvSub.refl _)))))))))) rfl rfl rfl)
              exact SXL.nil (segQ.mk (.skip rfl (.skip rfl (.skip rfl (.skip rfl (EnvSub.refl _))))) rfl rfl ⟨rfl, rfl⟩)
            refine SXL.nil ?_
            refine thenQ.normal ?_
            refine SX.condP rfl (fun c107 => ?_) (fun c107 => ?_)
            · refine SX.seq ?_
              refine SX.region ?_
              refine SXL.assign rfl ?_
              refine SXL.nil ?_
              refine thenQ.normal ?_
              refine SX.ret ?_
              refine blockQ.ret ?_
              refine thenQ.ret ?_
              refine thenQ.ret ?_
              refine blockQ.ret ?_
              refine thenQ.ret ?_
              refine blockQ.ret ?_
              refine thenQ.ret ?_
              refine thenQ.ret ?_
              refine blockQ.ret ?_
              refine thenQ.ret ?_
              refine retQ.one (ResAt.tmp rfl) ?_
              exact congrArg Value.bool (decide_eq_false (by intro h; have h1 := (h.2.2 k (by omega)).2.2.2 j (by omega); have h2 := fountI_has.2 h1.2; have e2 : ((j : Int) - 1).toNat = j - 1 := (by omega); rw [e2] at c107; rcases c107 with c | c; omega; have h3 := lastD_at (l := (u.streets.getD k default).draws) (j := j) (by omega); omega)).symm
            · refine SX.skip ?_
              refine blockQ.normal ?_
              refine thenQ.normal ?_
              refine SX.region ?_
              refine SXL.add rfl rfl (by omega) ?_
              refine SXL.move rfl ?_
              refine SXL.nil ?_
              refine thenQ.normal ?_
              refine ⟨j + 1, Meets.mk _ ⟨rfl, trivial⟩ ⟨rfl, rfl, rfl, rfl, rfl, rfl, rfl, rfl, trivial⟩ rfl, ?_, (by omega)⟩
              refine ⟨by omega, fun i hi => ?_⟩
              by_cases e : i = j
              · subst e
                obtain ⟨c1, c2⟩ := not_or.1 c107
                refine ⟨fountI_has.1 (by omega), fun h0 => ?_⟩
                have e2 : ((i : Int) - 1).toNat = i - 1 := by omega
                rw [e2] at c2
                have := not_and.1 c2 (by omega)
                omega
              · exact hall3 i (by omega)
          · refine SX.exit ?_
            refine thenQ.exit ?_
            refine thenQ.exit ?_
            refine blockQ.exit ?_
            refine thenQ.normal ?_
            refine SX.region ?_
            refine SXL.fieldAddr fp_73_0 rfl ?_
            refine SXL.load1o 1 sh_3 rfl rfl rfl ?_
            refine SXL.assign rfl ?_
            refine SXL.nil ?_
            refine blockQ.normal ?_
            refine thenQ.normal ?_
            refine SX.region ?_
            refine SXL.add rfl rfl (by omega) ?_
            refine SXL.move rfl ?_
            refine SXL.nil ?_
            refine thenQ.normal ?_
            refine ⟨k + 1, Meets.mk _ ⟨rfl, rfl, trivial⟩ ⟨rfl, rfl, rfl, rfl, trivial⟩ rfl, ?_, (by omega)⟩
            refine ⟨by omega, fun i hi => ?_⟩
            by_cases e : i = k
            · subst e
              exact ⟨by omega, by omega, by omega, drP_of hF fun x hx => hall3 x (by omega)⟩
            · exact hall2 i (by omega)
      · refine SX.exit ?_
        refine thenQ.exit ?_
        refine thenQ.exit ?_
        refine blockQ.exit ?_
        refine thenQ.normal ?_
        refine SX.seq ?_
        refine SX.region ?_
        refine SXL.assign rfl ?_
        refine SXL.nil ?_
        refine thenQ.normal ?_
        refine SX.ret ?_
        refine retQ.one (ResAt.tmp rfl) ?_
        exact congrArg Value.bool (decide_eq_true (p := SuP u) ⟨by unfold SizeP; omega, hF, fun i hi => hall2 i (by omega)⟩).symm
theorem rlong_any (u : Su) (fo so : Option Addr) (fc sc : Nat) (fa : Nat → FA) (sa : Nat → DA) (hl : LitP u) (w : World) (hs : SuAt w u fo so fa sa) :
    CallsR Tryd.prog 41 [.agg ⟨[.slice fo u.founts.length fc, .slice so u.streets.length sc]⟩] w (fun v _ => v = .int .i64 (long u)) := by
  have hL0 := hl.1
  have hL1 := hl.2.1
  have hL2 := hl.2.2
  refine CallsR.of_SX (n := 20) (rs := [.tmp 2]) Tryd.func41 rfl rfl rfl rfl ?_
  show SX _ _ _ ⟨[(0, .agg ⟨[.slice fo u.founts.length fc, .slice so u.streets.length sc]⟩)], [], []⟩
  refine SX.seq ?_
  refine SX.region ?_
  refine SXL.box rfl rfl ?_; intro b0
  refine SXL.assign rfl ?_
  refine SXL.nil ?_
  refine thenQ.normal ?_
  refine SX.seq ?_
  refine SX.region ?_
  refine SXL.assign rfl ?_
  refine SXL.nil ?_
  refine thenQ.normal ?_
  refine SX.seq ?_
  refine SX.seq ?_
  refine SX.region ?_
  refine SXL.fieldAddr fp_25_0 rfl ?_
  refine SXL.load1o 0 sh_22 rfl rfl rfl ?_
  refine SXL.len is_22 rfl ?_
  refine SXL.move rfl ?_
  refine SXL.nil ?_
  refine thenQ.normal ?_
  refine SX.block ?_
  refine SX.loopG (α := Nat) [2, 7, 8] rfl (fun k => [(9, .int .i64 ((k : Int))), (3, .int .i64 ((longTo u k)))]) (fun k => []) (fun k => k ≤ u.founts.length) (fun k => u.founts.length - k) 0 (Nat.zero_le _) ⟨rfl, rfl, trivial⟩ rfl ?_
  rintro k hk
  refine SX.seq ?_
  refine SX.region ?_
  refine SXL.lss rfl rfl ?_
  refine SXL.nil ?_
  refine thenQ.normal ?_
  refine SX.seq ?_
  refine SX.condP rfl (fun c10 => ?_) (fun c10 => ?_)
  · refine SX.skip ?_
    refine thenQ.normal ?_
    refine SX.seq ?_
    refine SX.block ?_
    refine SX.seq ?_
    obtain ⟨b, o, ha, hm⟩ := hs.fount (i := k) (by omega)
    refine SX.region ?_
    refine SXL.indexR el_22 rfl rfl ha (by omega) ?_
    refine SXL.loadN sh_70 rfl (hm _) rfl ?_
    refine SXL.alloc zp_70 ?_; intro b1
    refine SXL.store 1 sz_70 rfl rfl rfl rfl rfl rfl ?_
    refine SXL.nil ?_
    refine thenQ.normal ?_
    refine SX.region ?_
    refine SXL.move rfl ?_
    refine SXL.fieldAddr fp_70_1 rfl ?_
    refine SXL.fieldAddr fp_68_0 rfl ?_
    refine SXL.load1o 1 sh_3 rfl rfl rfl ?_
    refine SXL.min rfl rfl ?_
    refine SXL.assign rfl ?_
    refine SXL.nil ?_
    refine blockQ.normal ?_
    refine thenQ.normal ?_
    refine SX.region ?_
    refine SXL.add rfl rfl (by omega) ?_
    refine SXL.move rfl ?_
    refine SXL.nil ?_
    refine thenQ.normal ?_
    refine ⟨k + 1, Meets.mk _ ⟨rfl, rfl, trivial⟩ ⟨rfl, rfl, rfl, trivial⟩ rfl, (by omega), (by omega)⟩
  · refine SX.exit ?_
    refine thenQ.exit ?_
    refine thenQ.exit ?_
    refine blockQ.exit ?_
    refine thenQ.normal ?_
    refine SX.seq ?_
    obtain rfl : k = u.founts.length := by omega
    refine SX.region ?_
    refine SXL.move rfl ?_
    refine SXL.assign rfl ?_
    refine SXL.nil ?_
    refine thenQ.normal ?_
    refine SX.ret ?_
    refine retQ.one (ResAt.tmp rfl) ?_
    rfl
theorem rtrue_any (u : Su) (fo so : Option Addr) (fc sc : Nat) (fa : Nat → FA) (sa : Nat → DA) (hv : SuP u) (hl : LitP u) (w : World) (hs : SuAt w u fo so fa sa) :
    CallsR Tryd.prog 64 [.agg ⟨[.slice fo u.founts.length fc, .slice so u.streets.length sc]⟩] w (fun v _ => v = .bool (decide (TrueS u))) := by
  have hL0 := hl.1
  have hL1 := hl.2.1
  have hL2 := hl.2.2
  refine CallsR.of_SX (n := 17) (rs := [.tmp 2]) Tryd.func64 rfl rfl rfl rfl ?_
  show SX _ _ _ ⟨[(0, .agg ⟨[.slice fo u.founts.length fc, .slice so u.streets.length sc]⟩)], [], []⟩
  refine SX.seq ?_
  refine SX.region ?_
  refine SXL.box rfl rfl ?_; intro b0
  refine SXL.assign rfl ?_
  refine SXL.nil ?_
  refine thenQ.normal ?_
  refine SX.seq ?_
  refine SX.seq ?_
  refine SX.region ?_
  refine SXL.fieldAddr fp_25_0 rfl ?_
  refine SXL.load1o 0 sh_22 rfl rfl rfl ?_
  refine SXL.len is_22 rfl ?_
  refine SXL.move rfl ?_
  refine SXL.nil ?_
  refine thenQ.normal ?_
  refine SX.block ?_
  refine SX.loopG (α := Nat) [2, 6, 7] rfl (fun k => [(8, .int .i64 ((k : Int)))]) (fun k => []) (fun k => k ≤ u.founts.length ∧ ∀ i, i < k → TrueP (u.founts.getD i default).sp) (fun k => u.founts.length - k) 0 ⟨Nat.zero_le _, fun _ h => absurd h (Nat.not_lt_zero _)⟩ ⟨rfl, trivial⟩ rfl ?_
  rintro k ⟨hk, hall⟩
  refine SX.seq ?_
  refine SX.region ?_
  refine SXL.lss rfl rfl ?_
  refine SXL.nil ?_
  refine thenQ.normal ?_
  refine SX.seq ?_
  refine SX.condP rfl (fun c9 => ?_) (fun c9 => ?_)
  · refine SX.skip ?_
    refine thenQ.normal ?_
    refine SX.seq ?_
    refine SX.block ?_
    refine SX.seq ?_
    obtain ⟨b, o, ha, hm⟩ := hs.fount (i := k) (by omega)
    refine SX.region ?_
    refine SXL.indexR el_22 rfl rfl ha (by omega) ?_
    refine SXL.loadN sh_70 rfl (hm _) rfl ?_
    refine SXL.alloc zp_70 ?_; intro b1
    refine SXL.store 1 sz_70 rfl rfl rfl rfl rfl rfl ?_
    refine SXL.nil ?_
    refine thenQ.normal ?_
    refine SX.seq ?_
    refine SX.region ?_
    refine SXL.fieldAddr fp_70_1 rfl ?_
    refine SXL.loadNo 1 sh_68 rfl rfl rfl ?_
    refine SXL.call1 (.bool (decide (TrueP ((u.founts.getD k default).sp)))) fn_93 rfl (fun w hI => true_any ((u.founts.getD k default).sp) (fa k).bo (fa k).ro (fa k).bc (fa k).rc (hv.spring (by omega)) w ((hs.springs k (by omega)).inv hI)) ?_
    refine SXL.not rfl ?_
    refine SXL.nil ?_
    refine thenQ.normal ?_
    refine SX.condP rfl (fun c15 => ?_) (fun c15 => ?_)
    · refine SX.seq ?_
      refine SX.region ?_
      refine SXL.assign rfl ?_
      refine SXL.nil ?_
      refine thenQ.normal ?_
      refine SX.ret ?_
      refine blockQ.ret ?_
      refine thenQ.ret ?_
      refine thenQ.ret ?_
      refine blockQ.ret ?_
      refine thenQ.ret ?_
      refine retQ.one (ResAt.tmp rfl) ?_
      exact congrArg Value.bool (decide_eq_false (by intro h; exact c15 (h k (by omega)))).symm
    · refine SX.skip ?_
      refine blockQ.normal ?_
      refine thenQ.normal ?_
      refine SX.region ?_
      refine SXL.add rfl rfl (by omega) ?_
      refine SXL.move rfl ?_
      refine SXL.nil ?_
      refine thenQ.normal ?_
      refine ⟨k + 1, Meets.mk _ ⟨rfl, trivial⟩ ⟨rfl, rfl, rfl, trivial⟩ rfl, ?_, (by omega)⟩
      refine ⟨by omega, fun i hi => ?_⟩
      by_cases e : i = k
      · subst e; exact Decidable.not_not.1 c15
      · exact hall i (by omega)
  · refine SX.exit ?_
    refine thenQ.exit ?_
    refine thenQ.exit ?_
    refine blockQ.exit ?_
    refine thenQ.normal ?_
    refine SX.seq ?_
    refine SX.region ?_
    refine SXL.assign rfl ?_
    refine SXL.nil ?_
    refine thenQ.normal ?_
    refine SX.ret ?_
    refine retQ.one (ResAt.tmp rfl) ?_
    exact congrArg Value.bool (decide_eq_true (fun i hi => hall i (by omega))).symm
theorem rasked_any (u : Su) (fo so : Option Addr) (fc sc : Nat) (fa : Nat → FA) (sa : Nat → DA) (week : Int) (hl : LitP u) (w : World) (hs : SuAt w u fo so fa sa) :
    CallsR Tryd.prog 44 [.agg ⟨[.slice fo u.founts.length fc, .slice so u.streets.length sc]⟩, .int .i64 week] w (fun v _ => v = .int .i64 (askT u week True 0)) := by
  refine CallsR.of_SX (n := 17) (rs := [.tmp 4]) Tryd.func44 rfl rfl rfl rfl ?_
  show SX _ _ _ ⟨[(0, .agg ⟨[.slice fo u.founts.length fc, .slice so u.streets.length sc]⟩), (1, .int .i64 week)], [], []⟩
  refine SX.seq ?_
  refine SX.region ?_
  refine SXL.box rfl rfl ?_; intro b0
  refine SXL.assign rfl ?_
  refine SXL.nil ?_
  refine thenQ.normal ?_
  refine SX.seq ?_
  refine SX.seq ?_
  refine SX.region ?_
  refine SXL.loadNo 0 sh_25 rfl rfl rfl ?_
  refine SXL.call1 (.bool (decide (SuP u))) fn_40 rfl (fun w hI => supply_any u fo so fc sc fa sa hl w (hs.inv hI)) ?_
  refine SXL.not rfl ?_
  refine SXL.nil ?_
  refine thenQ.normal ?_
  refine SX.condP rfl (fun c7 => ?_) (fun c7 => ?_)
  · refine SX.seq ?_
    refine SX.region ?_
    refine SXL.assign rfl ?_
    refine SXL.nil ?_
    refine thenQ.normal ?_
    refine SX.ret ?_
    refine thenQ.ret ?_
    refine retQ.one (ResAt.tmp rfl) ?_
    rw [askT, if_pos c7]
  · refine SX.skip ?_
    refine thenQ.normal ?_
    refine SX.seq ?_
    refine SX.seq ?_
    have hv := Decidable.not_not.1 c7
    have hlo := hv.long
    refine SX.region ?_
    refine SXL.move rfl ?_
    refine SXL.loadNo 0 sh_25 rfl rfl rfl ?_
    refine SXL.call1 (.int .i64 (long u)) fn_41 rfl (fun w hI => rlong_any u fo so fc sc fa sa hl w (hs.inv hI)) ?_
    refine SXL.sub rfl rfl (by omega) ?_
    refine SXL.call1 (.bool (decide (Wi (week) (0) (long u - 1)))) fn_62 rfl (fun w hI => within9_any _ _ _ _) ?_
    refine SXL.not rfl ?_
    refine SXL.nil ?_
    refine thenQ.normal ?_
    refine SX.condP rfl (fun c13 => ?_) (fun c13 => ?_)
    · refine SX.seq ?_
      refine SX.region ?_
      refine SXL.assign rfl ?_
      refine SXL.nil ?_
      refine thenQ.normal ?_
      refine SX.ret ?_
      refine thenQ.ret ?_
      refine retQ.one (ResAt.tmp rfl) ?_
      rw [askT, if_neg (Classical.not_not.2 hv), if_pos c13]
    · refine SX.skip ?_
      refine thenQ.normal ?_
      refine SX.seq ?_
      refine SX.seq ?_
      have hw := Decidable.not_not.1 c13
      refine SX.region ?_
      refine SXL.loadNo 0 sh_25 rfl rfl rfl ?_
      refine SXL.call1 (.bool (decide (TrueS u))) fn_64 rfl (fun w hI => rtrue_any u fo so fc sc fa sa (hv) hl w (hs.inv hI)) ?_
      refine SXL.not rfl ?_
      refine SXL.nil ?_
      refine thenQ.normal ?_
      refine SX.condP rfl (fun c16 => ?_) (fun c16 => ?_)
      · refine SX.seq ?_
        refine SX.region ?_
        refine SXL.assign rfl ?_
        refine SXL.nil ?_
        refine thenQ.normal ?_
        refine SX.ret ?_
        refine thenQ.ret ?_
        refine retQ.one (ResAt.tmp rfl) ?_
        rw [askT, if_neg (Classical.not_not.2 hv), if_neg (Classical.not_not.2 hw), if_neg (fun h => h trivial), if_neg c16]
      · refine SX.skip ?_
        refine thenQ.normal ?_
        refine SX.seq ?_
        refine SX.region ?_
        refine SXL.assign rfl ?_
        refine SXL.nil ?_
        refine thenQ.normal ?_
        refine SX.ret ?_
        refine retQ.one (ResAt.tmp rfl) ?_
        rw [askT, if_neg (Classical.not_not.2 hv), if_neg (Classical.not_not.2 hw), if_neg (fun h => h trivial), if_pos (Decidable.not_not.1 c16)]
end Go.Proofs.YtolcicaclflagaaDoor

/- The walks of the reference of layer 9: whether there is enough. -/
namespace Go.Proofs.YtolcicaclflagaaDoor
open Go.X Go.S Go.T Go.RowKit
theorem given_any (u : Su) (fo so : Option Addr) (fc sc : Nat) (fa : Nat → FA) (sa : Nat → DA) (week : Int) (best : Bool) (hl : LitP u) (w : World) (hs : SuAt w u fo so fa sa) :
    CallsR Tryd.prog 45 [.agg ⟨[.slice fo u.founts.length fc, .slice so u.streets.length sc]⟩, .int .i64 week, .bool best] w (IsI (waterL u week best)) := by
  have hL0 := hl.1
  have hL1 := hl.2.1
  have hL2 := hl.2.2
  refine CallsR.of_SX (n := 39) (rs := [.tmp 6]) Tryd.func45 rfl rfl rfl rfl ?_
  show SX _ _ _ ⟨[(0, .agg ⟨[.slice fo u.founts.length fc, .slice so u.streets.length sc]⟩), (1, .int .i64 week), (2, .bool best)], [], []⟩
  refine SX.seq ?_
  refine SX.region ?_
  refine SXL.box rfl rfl ?_; intro b0
  refine SXL.assign rfl ?_
  refine SXL.nil ?_
  refine thenQ.normal ?_
  refine SX.seq ?_
  refine SX.pad (Sl.nil.ent 3 []) rfl ?_
  refine SX.region ?_
  refine SXL.assign rfl ?_
  refine SXL.nil ?_
  refine thenQ.normal ?_
  refine SX.seq ?_
  refine SX.seq ?_
  refine SX.region ?_
  refine SXL.fieldAddr fp_25_0 rfl ?_
  refine SXL.load1o 0 sh_22 rfl rfl rfl ?_
  refine SXL.len is_22 rfl ?_
  refine SXL.move rfl ?_
  refine SXL.nil ?_
  refine thenQ.normal ?_
  refine SX.block ?_
  refine SX.loopW (α := Nat × Sl × Nat × List Value) [1, 2, 6, 13, 14] rfl (fun ⟨k, q, n, c⟩ => [(15, .int .i64 ((k : Int))), (7, q.val n)]) (fun ⟨k, q, n, c⟩ => [(b0, .cells ⟨[.slice fo u.founts.length fc, .slice so u.streets.length sc]⟩ 25 (0, 0)), q.ent 3 c]) (fun ⟨k, q, n, c⟩ => []) (fun ⟨k, q, n, c⟩ => k ≤ u.founts.length ∧ q.Ok n 1 c ∧ n = k ∧ c = ints ((waterL u week best).take k)) (fun ⟨k, q, n, c⟩ => u.founts.length - k) (0, Sl.nil, 0, []) ⟨Nat.zero_le _, .none _, rfl, rfl⟩ ⟨rfl, rfl, trivial⟩ rfl ?_
  rintro ⟨k, q, n, c⟩ ⟨hk, ho, rfl, rfl⟩
  refine SX.seq ?_
  refine SX.region ?_
  refine SXL.lss rfl rfl ?_
  refine SXL.nil ?_
  refine thenQ.normal ?_
  refine SX.seq ?_
  refine SX.condP rfl (fun c16 => ?_) (fun c16 => ?_)
  · refine SX.skip ?_
    refine thenQ.normal ?_
    refine SX.seq ?_
    refine SX.block ?_
    refine SX.seq ?_
    obtain ⟨b, o, ha, hm⟩ := hs.fount (i := n) (by omega)
    refine SX.region ?_
    refine SXL.indexR el_22 rfl rfl ha (by omega) ?_
    refine SXL.loadN sh_70 rfl (hm _) rfl ?_
    refine SXL.alloc zp_70 ?_; intro b2
    refine SXL.store 2 sz_70 rfl rfl rfl rfl rfl rfl ?_
    refine SXL.nil ?_
    refine thenQ.normal ?_
    refine SX.seq ?_
    refine SX.region ?_
    refine SXL.fieldAddr fp_70_1 rfl ?_
    refine SXL.loadNo 2 sh_68 rfl rfl rfl ?_
    refine SXL.move rfl ?_
    refine SXL.call1 (.tuple ⟨[.agg ⟨[.int .i64 ((givesLo ((u.founts.getD n default).sp) week)), .int .i64 ((givesHi ((u.founts.getD n default).sp) week))]⟩, .int .i64 (toldE ((u.founts.getD n default).sp) week)]⟩) fn_89 rfl (fun w hI => gives_any ((u.founts.getD n default).sp) (fa n).bo (fa n).ro (fa n).bc (fa n).rc week w ((hs.springs n (by omega)).inv hI)) ?_
    refine SXL.move rfl ?_
    refine SXL.extract rfl rfl ?_
    refine SXL.extract rfl rfl ?_
    refine SXL.alloc zp_55 ?_; intro b3
    refine SXL.store 3 sz_55 rfl rfl rfl rfl rfl rfl ?_
    refine SXL.assign rfl ?_
    refine SXL.nil ?_
    refine thenQ.normal ?_
    refine SX.seq ?_
    refine SX.region ?_
    refine SXL.move rfl ?_
    refine SXL.nil ?_
    refine thenQ.normal ?_
    refine SX.cond rfl (fun c26 => ?_) (fun c26 => ?_)
    · refine SX.region ?_
      refine SXL.move rfl ?_
      refine SXL.fieldAddr fp_55_1 rfl ?_
      refine SXL.load1o 3 sh_3 rfl rfl rfl ?_
      refine SXL.buildSlice et_33 zp_3 rfl rfl rfl rfl ?_; intro b4
      refine SXL.append 1 ap_33 rfl rfl ho rfl (.inr ⟨_, _, rfl, Mem.own (i := 4) rfl (takeAt_all _)⟩) rfl rfl ⟨by simp only [maxLen]; omega, by omega⟩ ?_; intro r_31 o_31
      refine SXL.assign rfl ?_
      refine SXL.nil ?_
      refine blockQ.normal ?_
      refine thenQ.normal ?_
      refine SX.region ?_
      refine SXL.add rfl rfl (by omega) ?_
      refine SXL.move rfl ?_
      refine SXL.nil ?_
      refine thenQ.normal ?_
      refine ⟨(n + 1, _, _, _), MeetsW.mkP _ ⟨rfl, rfl, trivial⟩ ⟨rfl, rfl, rfl, rfl, rfl, trivial⟩ rfl, ?_, (show u.founts.length - (n + 1) < u.founts.length - n by omega)⟩
      have e3 := take_snocI (l := waterL u week best) (k := n) (by rw [waterL_len]; omega)
      rw [waterL_at (by omega)] at e3
      first
        | exact ⟨by omega, o_31, rfl, by rw [e3, ints_snoc, if_pos c26]; rfl⟩
        | exact ⟨by omega, o_36, rfl, by rw [e3, ints_snoc, if_neg (by rw [c26]; decide)]; rfl⟩
    · refine SX.region ?_
      refine SXL.move rfl ?_
      refine SXL.fieldAddr fp_55_0 rfl ?_
      refine SXL.load1o 3 sh_3 rfl rfl rfl ?_
      refine SXL.buildSlice et_33 zp_3 rfl rfl rfl rfl ?_; intro b4
      refine SXL.append 1 ap_33 rfl rfl ho rfl (.inr ⟨_, _, rfl, Mem.own (i := 4) rfl (takeAt_all _)⟩) rfl rfl ⟨by simp only [maxLen]; omega, by omega⟩ ?_; intro r_36 o_36
      refine SXL.assign rfl ?_
      refine SXL.nil ?_
      refine blockQ.normal ?_
      refine thenQ.normal ?_
      refine SX.region ?_
      refine SXL.add rfl rfl (by omega) ?_
      refine SXL.move rfl ?_
      refine SXL.nil ?_
      refine thenQ.normal ?_
      refine ⟨(n + 1, _, _, _), MeetsW.mkP _ ⟨rfl, rfl, trivial⟩ ⟨rfl, rfl, rfl, rfl, rfl, trivial⟩ rfl, ?_, (show u.founts.length - (n + 1) < u.founts.length - n by omega)⟩
      have e3 := take_snocI (l := waterL u week best) (k := n) (by rw [waterL_len]; omega)
      rw [waterL_at (by omega)] at e3
      first
        | exact ⟨by omega, o_31, rfl, by rw [e3, ints_snoc, if_pos c26]; rfl⟩
        | exact ⟨by omega, o_36, rfl, by rw [e3, ints_snoc, if_neg (by rw [c26]; decide)]; rfl⟩
  · refine SX.exit ?_
    refine thenQ.exit ?_
    refine thenQ.exit ?_
    refine blockQ.exit ?_
    refine thenQ.normal ?_
    refine SX.seq ?_
    refine SX.region ?_
    refine SXL.move rfl ?_
    refine SXL.assign rfl ?_
    refine SXL.nil ?_
    refine thenQ.normal ?_
    refine SX.ret ?_
    refine retQ.sel [1] rfl rfl ?_
    refine retQ.one (ResAt.tmp rfl) ?_
    obtain rfl : n = u.founts.length := by omega
    have e4 : (waterL u week best).take u.founts.length = waterL u week best := List.take_of_length_le (by rw [waterL_len]; omega)
    rw [e4] at ho ⊢
    exact ⟨q, by rw [waterL_len]; exact ho, by rw [waterL_len], rfl⟩
theorem needed_any (u : Su) (fo so : Option Addr) (fc sc : Nat) (fa : Nat → FA) (sa : Nat → DA) (best : Bool) (hl : LitP u) (w : World) (hs : SuAt w u fo so fa sa) :
    CallsR Tryd.prog 74 [.agg ⟨[.slice fo u.founts.length fc, .slice so u.streets.length sc]⟩, .bool best] w (IsI (needs u best)) := by
  have hL0 := hl.1
  have hL1 := hl.2.1
  have hL2 := hl.2.2
  refine CallsR.of_SX (n := 30) (rs := [.tmp 4]) Tryd.func74 rfl rfl rfl rfl ?_
  show SX _ _ _ ⟨[(0, .agg ⟨[.slice fo u.founts.length fc, .slice so u.streets.length sc]⟩), (1, .bool best)], [], []⟩
  refine SX.seq ?_
  refine SX.region ?_
  refine SXL.box rfl rfl ?_; intro b0
  refine SXL.assign rfl ?_
  refine SXL.nil ?_
  refine thenQ.normal ?_
  refine SX.seq ?_
  refine SX.pad (Sl.nil.ent 3 []) rfl ?_
  refine SX.region ?_
  refine SXL.assign rfl ?_
  refine SXL.nil ?_
  refine thenQ.normal ?_
  refine SX.seq ?_
  refine SX.seq ?_
  refine SX.region ?_
  refine SXL.fieldAddr fp_25_1 rfl ?_
  refine SXL.load1o 0 sh_23 rfl rfl rfl ?_
  refine SXL.len is_23 rfl ?_
  refine SXL.move rfl ?_
  refine SXL.nil ?_
  refine thenQ.normal ?_
  refine SX.block ?_
  refine SX.loopW (α := Nat × Sl × Nat × List Value) [1, 4, 9, 10] rfl (fun ⟨k, q, n, c⟩ => [(11, .int .i64 ((k : Int))), (5, q.val n)]) (fun ⟨k, q, n, c⟩ => [(b0, .cells ⟨[.slice fo u.founts.length fc, .slice so u.streets.length sc]⟩ 25 (0, 0)), q.ent 3 c]) (fun ⟨k, q, n, c⟩ => []) (fun ⟨k, q, n, c⟩ => k ≤ u.streets.length ∧ q.Ok n 1 c ∧ n = k ∧ c = ints ((needs u best).take k)) (fun ⟨k, q, n, c⟩ => u.streets.length - k) (0, Sl.nil, 0, []) ⟨Nat.zero_le _, .none _, rfl, rfl⟩ ⟨rfl, rfl, trivial⟩ rfl ?_
  rintro ⟨k, q, n, c⟩ ⟨hk, ho, rfl, rfl⟩
  refine SX.seq ?_
  refine SX.region ?_
  refine SXL.lss rfl rfl ?_
  refine SXL.nil ?_
  refine thenQ.normal ?_
  refine SX.seq ?_
  refine SX.condP rfl (fun c12 => ?_) (fun c12 => ?_)
  · refine SX.skip ?_
    refine thenQ.normal ?_
    refine SX.seq ?_
    refine SX.block ?_
    refine SX.seq ?_
    obtain ⟨b, o, ha, hm⟩ := hs.street (i := n) (by omega)
    refine SX.region ?_
    refine SXL.indexR el_23 rfl rfl ha (by omega) ?_
    refine SXL.loadN sh_73 rfl (hm _) rfl ?_
    refine SXL.alloc zp_73 ?_; intro b2
    refine SXL.store 2 sz_73 rfl rfl rfl rfl rfl rfl ?_
    refine SXL.nil ?_
    refine thenQ.normal ?_
    refine SX.seq ?_
    refine SX.region ?_
    refine SXL.move rfl ?_
    refine SXL.nil ?_
    refine thenQ.normal ?_
    refine SX.cond rfl (fun c15 => ?_) (fun c15 => ?_)
    · refine SX.region ?_
      refine SXL.move rfl ?_
      refine SXL.fieldAddr fp_73_1 rfl ?_
      refine SXL.fieldAddr fp_55_0 rfl ?_
      refine SXL.load1o 2 sh_3 rfl rfl rfl ?_
      refine SXL.buildSlice et_33 zp_3 rfl rfl rfl rfl ?_; intro b3
      refine SXL.append 1 ap_33 rfl rfl ho rfl (.inr ⟨_, _, rfl, Mem.own (i := 3) rfl (takeAt_all _)⟩) rfl rfl ⟨by simp only [maxLen]; omega, by omega⟩ ?_; intro r_21 o_21
      refine SXL.assign rfl ?_
      refine SXL.nil ?_
      refine blockQ.normal ?_
      refine thenQ.normal ?_
      refine SX.region ?_
      refine SXL.add rfl rfl (by omega) ?_
      refine SXL.move rfl ?_
      refine SXL.nil ?_
      refine thenQ.normal ?_
      refine ⟨(n + 1, _, _, _), MeetsW.mkP _ ⟨rfl, rfl, trivial⟩ ⟨rfl, rfl, rfl, rfl, trivial⟩ rfl, ?_, (show u.streets.length - (n + 1) < u.streets.length - n by omega)⟩
      have e3 := take_snocI (l := needs u best) (k := n) (by rw [needs_len]; omega)
      rw [needs_at (by omega)] at e3
      first
        | exact ⟨by omega, o_21, rfl, by rw [e3, ints_snoc, if_pos c15]; rfl⟩
        | exact ⟨by omega, o_27, rfl, by rw [e3, ints_snoc, if_neg (by rw [c15]; decide)]; rfl⟩
    · refine SX.region ?_
      refine SXL.move rfl ?_
      refine SXL.fieldAddr fp_73_1 rfl ?_
      refine SXL.fieldAddr fp_55_1 rfl ?_
      refine SXL.load1o 2 sh_3 rfl rfl rfl ?_
      refine SXL.buildSlice et_33 zp_3 rfl rfl rfl rfl ?_; intro b3
      refine SXL.append 1 ap_33 rfl rfl ho rfl (.inr ⟨_, _, rfl, Mem.own (i := 3) rfl (takeAt_all _)⟩) rfl rfl ⟨by simp only [maxLen]; omega, by omega⟩ ?_; intro r_27 o_27
      refine SXL.assign rfl ?_
      refine SXL.nil ?_
      refine blockQ.normal ?_
      refine thenQ.normal ?_
      refine SX.region ?_
      refine SXL.add rfl rfl (by omega) ?_
      refine SXL.move rfl ?_
      refine SXL.nil ?_
      refine thenQ.normal ?_
      refine ⟨(n + 1, _, _, _), MeetsW.mkP _ ⟨rfl, rfl, trivial⟩ ⟨rfl, rfl, rfl, rfl, trivial⟩ rfl, ?_, (show u.streets.length - (n + 1) < u.streets.length - n by omega)⟩
      have e3 := take_snocI (l := needs u best) (k := n) (by rw [needs_len]; omega)
      rw [needs_at (by omega)] at e3
      first
        | exact ⟨by omega, o_21, rfl, by rw [e3, ints_snoc, if_pos c15]; rfl⟩
        | exact ⟨by omega, o_27, rfl, by rw [e3, ints_snoc, if_neg (by rw [c15]; decide)]; rfl⟩
  · refine SX.exit ?_
    refine thenQ.exit ?_
    refine thenQ.exit ?_
    refine blockQ.exit ?_
    refine thenQ.normal ?_
    refine SX.seq ?_
    refine SX.region ?_
    refine SXL.move rfl ?_
    refine SXL.assign rfl ?_
    refine SXL.nil ?_
    refine thenQ.normal ?_
    refine SX.ret ?_
    refine retQ.sel [1] rfl rfl ?_
    refine retQ.one (ResAt.tmp rfl) ?_
    obtain rfl : n = u.streets.length := by omega
    have e4 : (needs u best).take u.streets.length = needs u best := List.take_of_length_le (by rw [needs_len]; omega)
    rw [e4] at ho ⊢
    exact ⟨q, by rw [needs_len]; exact ho, by rw [needs_len], rfl⟩
theorem has_any (b i : Nat) (hb : b ≤ 10000) (hi : i ≤ 60) (w : World) :
    CallsR Tryd.prog 97 [.int .i64 ((b : Int)), .int .i64 ((i : Int))] w (fun v _ => v = .bool (decide (hasI b i))) := by
  have hbi : b / 2 ^ i ≤ b := Nat.div_le_self _ _
  refine CallsR.of_SX (n := 10) (rs := [.tmp 4]) Tryd.func97 rfl rfl rfl rfl ?_
  show SX _ _ _ ⟨[(0, .int .i64 ((b : Int))), (1, .int .i64 ((i : Int)))], [], []⟩
  refine SX.seq ?_
  refine SX.region ?_
  refine SXL.assign rfl ?_
  refine SXL.nil ?_
  refine thenQ.normal ?_
  refine SX.seq ?_
  refine SX.region ?_
  refine SXL.move rfl ?_
  refine SXL.move rfl ?_
  refine SXL.shrN rfl rfl (by omega) ?_
  refine SXL.and1 rfl rfl (by omega) ?_
  refine SXL.eqlI rfl rfl ?_
  refine SXL.assign rfl ?_
  refine SXL.nil ?_
  refine thenQ.normal ?_
  refine SX.ret ?_
  refine retQ.one (ResAt.tmp rfl) ?_
  exact congrArg Value.bool (decide_eq_decide.2 (by unfold hasI; omega))
theorem rsum_any (b : Nat) (L : List Int) (lo : Option Addr) (lc : Nat) (hb : b ≤ 10000) (hln : L.length ≤ 20) (hLs : Sm L) (w : World) (h1 : RowsAt w lo 1 (ones L)) :
    CallsR Tryd.prog 76 [.int .i64 ((b : Int)), .slice lo L.length lc] w (fun v _ => v = .int .i64 (sumB b L)) := by
  refine CallsR.of_SX (n := 23) (rs := [.tmp 4]) Tryd.func76 rfl rfl rfl rfl ?_
  show SX _ _ _ ⟨[(0, .int .i64 ((b : Int))), (1, .slice lo L.length lc)], [], []⟩
  refine SX.seq ?_
  refine SX.region ?_
  refine SXL.assign rfl ?_
  refine SXL.nil ?_
  refine thenQ.normal ?_
  refine SX.seq ?_
  refine SX.region ?_
  refine SXL.assign rfl ?_
  refine SXL.nil ?_
  refine thenQ.normal ?_
  refine SX.seq ?_
  refine SX.seq ?_
  refine SX.region ?_
  refine SXL.assign rfl ?_
  refine SXL.nil ?_
  refine thenQ.normal ?_
  refine SX.block ?_
  refine SX.loopG (α := Nat × Int) [0, 1, 4] rfl (fun ⟨k, nn⟩ => [(6, .int .i64 ((k : Int))), (5, .int .i64 nn)]) (fun ⟨k, nn⟩ => []) (fun ⟨k, nn⟩ => k ≤ L.length ∧ nn = T.sumTo b L k) (fun ⟨k, nn⟩ => L.length - k) (0, 0) ⟨Nat.zero_le _, rfl⟩ ⟨rfl, rfl, trivial⟩ rfl ?_
  rintro ⟨k, nn⟩ ⟨hk, rfl⟩
  have hsb := sumTo_in (b := b) hLs k
  have hlk := hLs k
  refine SX.seq ?_
  refine SX.seq ?_
  refine SX.region ?_
  refine SXL.move rfl ?_
  refine SXL.move rfl ?_
  refine SXL.len is_33 rfl ?_
  refine SXL.lss rfl rfl ?_
  refine SXL.nil ?_
  refine thenQ.normal ?_
  refine SX.condP rfl (fun c10 => ?_) (fun c10 => ?_)
  · refine SX.skip ?_
    refine thenQ.normal ?_
    refine SX.seq ?_
    refine SX.block ?_
    refine SX.seq ?_
    refine SX.region ?_
    refine SXL.move rfl ?_
    refine SXL.move rfl ?_
    refine SXL.call1 (.bool (decide (hasI b k))) fn_97 rfl (fun w hI => has_any b k (by omega) (by omega) w) ?_
    refine SXL.nil ?_
    refine thenQ.normal ?_
    refine SX.condP rfl (fun c15 => ?_) (fun c15 => ?_)
    · obtain ⟨bb, o, ha, hm⟩ := oneI h1 (i := k) (by omega)
      refine SX.region ?_
      refine SXL.move rfl ?_
      refine SXL.move rfl ?_
      refine SXL.move rfl ?_
      refine SXL.indexR el_33 rfl rfl ha (by omega) ?_
      refine SXL.load1 sh_3 rfl (hm _) ?_
      refine SXL.add rfl rfl (by omega) ?_
      refine SXL.assign rfl ?_
      refine SXL.nil ?_
      refine blockQ.normal ?_
      refine thenQ.normal ?_
      refine SX.region ?_
      refine SXL.move rfl ?_
      refine SXL.add rfl rfl (by omega) ?_
      refine SXL.assign rfl ?_
      refine SXL.nil ?_
      refine thenQ.normal ?_
      refine ⟨(k + 1, _), Meets.mk _ ⟨rfl, rfl, trivial⟩ ⟨rfl, rfl, rfl, trivial⟩ rfl, ⟨by omega, ?_⟩, (show L.length - (k + 1) < L.length - k by omega)⟩
      first
        | (rw [T.sumTo, if_pos c15])
        | (rw [T.sumTo, if_neg c15])
    · refine SX.skip ?_
      refine blockQ.normal ?_
      refine thenQ.normal ?_
      refine SX.region ?_
      refine SXL.move rfl ?_
      refine SXL.add rfl rfl (by omega) ?_
      refine SXL.assign rfl ?_
      refine SXL.nil ?_
      refine thenQ.normal ?_
      refine ⟨(k + 1, _), Meets.mk _ ⟨rfl, rfl, trivial⟩ ⟨rfl, rfl, rfl, trivial⟩ rfl, ⟨by omega, ?_⟩, (show L.length - (k + 1) < L.length - k by omega)⟩
      first
        | (rw [T.sumTo, if_pos c15])
        | (rw [T.sumTo, if_neg c15])
  · refine SX.exit ?_
    refine thenQ.exit ?_
    refine thenQ.exit ?_
    refine blockQ.exit ?_
    refine thenQ.normal ?_
    refine SX.seq ?_
    obtain rfl : k = L.length := by omega
    refine SX.region ?_
    refine SXL.move rfl ?_
    refine SXL.assign rfl ?_
    refine SXL.nil ?_
    refine thenQ.normal ?_
    refine SX.ret ?_
    refine retQ.one (ResAt.tmp rfl) ?_
    rfl
set_option maxHeartbeats 1000000 in
theorem rthere_any (u : Su) (fo so : Option Addr) (fc sc : Nat) (fa : Nat → FA) (sa : Nat → DA) (b : Nat) (W : List Int) (wo : Option Addr) (wc : Nat) (hb : b ≤ 10000) (hW : W.length = u.founts.length) (hWs : Sm W) (hl : LitP u) (w : World) (hs : SuAt w u fo so fa sa) (hwo : RowsAt w wo 1 (ones W)) :
    CallsR Tryd.prog 77 [.agg ⟨[.slice fo u.founts.length fc, .slice so u.streets.length sc]⟩, .int .i64 ((b : Int)), .slice wo W.length wc] w (fun v _ => v = .int .i64 (thr u b W)) := by
  have hL0 := hl.1
  have hL1 := hl.2.1
  have hL2 := hl.2.2
  refine CallsR.of_SX (n := 61) (rs := [.tmp 6]) Tryd.func77 rfl rfl rfl rfl ?_
  show SX _ _ _ ⟨[(0, .agg ⟨[.slice fo u.founts.length fc, .slice so u.streets.length sc]⟩), (1, .int .i64 ((b : Int))), (2, .slice wo W.length wc)], [], []⟩
  refine SX.seq ?_
  refine SX.region ?_
  refine SXL.box rfl rfl ?_; intro b0
  refine SXL.assign rfl ?_
  refine SXL.nil ?_
  refine thenQ.normal ?_
  refine SX.seq ?_
  refine SX.region ?_
  refine SXL.assign rfl ?_
  refine SXL.nil ?_
  refine thenQ.normal ?_
  refine SX.seq ?_
  refine SX.seq ?_
  refine SX.region ?_
  refine SXL.fieldAddr fp_25_0 rfl ?_
  refine SXL.load1o 0 sh_22 rfl rfl rfl ?_
  refine SXL.len is_22 rfl ?_
  refine SXL.move rfl ?_
  refine SXL.nil ?_
  refine thenQ.normal ?_
  refine SX.block ?_
  refine SX.loopW (α := Nat × Int) [1, 2, 3, 6, 16, 17] rfl (fun ⟨k, nn⟩ => [(18, .int .i64 ((k : Int))), (7, .int .i64 nn)]) (fun ⟨k, nn⟩ => [(b0, .cells ⟨[.slice fo u.founts.length fc, .slice so u.streets.length sc]⟩ 25 (0, 0))]) (fun ⟨k, nn⟩ => []) (fun ⟨k, nn⟩ => k ≤ u.founts.length ∧ nn = thrTo u b W k) (fun ⟨k, nn⟩ => u.founts.length - k) (0, 0) ⟨Nat.zero_le _, rfl⟩ ⟨rfl, rfl, trivial⟩ rfl ?_
  rintro ⟨k, nn⟩ ⟨hk, rfl⟩
  have hsb := thrTo_in (u := u) (b := b) hWs k
  have hlk := hWs k
  refine SX.seq ?_
  refine SX.region ?_
  refine SXL.lss rfl rfl ?_
  refine SXL.nil ?_
  refine thenQ.normal ?_
  refine SX.seq ?_
  refine SX.condP rfl (fun c19 => ?_) (fun c19 => ?_)
  · refine SX.skip ?_
    refine thenQ.normal ?_
    refine SX.seq ?_
    refine SX.block ?_
    refine SX.seq ?_
    obtain ⟨bf, of, ha, hm⟩ := hs.fount (i := k) (by omega)
    refine SX.region ?_
    refine SXL.move rfl ?_
    refine SXL.indexR el_22 rfl rfl ha (by omega) ?_
    refine SXL.loadN sh_70 rfl (hm _) rfl ?_
    refine SXL.alloc zp_70 ?_; intro b1
    refine SXL.assign rfl ?_
    refine SXL.store 1 sz_70 rfl rfl rfl rfl rfl rfl ?_
    refine SXL.nil ?_
    refine thenQ.normal ?_
    refine SX.seq ?_
    refine SX.region ?_
    refine SXL.assign rfl ?_
    refine SXL.nil ?_
    refine thenQ.normal ?_
    refine SX.seq ?_
    refine SX.seq ?_
    refine SX.region ?_
    refine SXL.fieldAddr fp_25_1 rfl ?_
    refine SXL.load1o 0 sh_23 rfl rfl rfl ?_
    refine SXL.len is_23 rfl ?_
    refine SXL.move rfl ?_
    refine SXL.nil ?_
    refine thenQ.normal ?_
    refine SX.block ?_
    refine SX.loopW (α := Nat) [1, 2, 3, 6, 7, 8, 9, 16, 17, 18, 24, 25] rfl (fun i => [(26, .int .i64 ((i : Int))), (10, .bool (decide (opnB u b (u.founts.getD k default).id i)))]) (fun i => [(b0, .cells ⟨[.slice fo u.founts.length fc, .slice so u.streets.length sc]⟩ 25 (0, 0)), (b1, .cells ⟨foC (u.founts.getD k default) (fa k)⟩ 70 (0, 0))]) (fun i => []) (fun i => i ≤ u.streets.length) (fun i => u.streets.length - i) 0 (Nat.zero_le _) ⟨rfl, rfl, trivial⟩ rfl ?_
    rintro i hi
    refine SX.seq ?_
    refine SX.region ?_
    refine SXL.lss rfl rfl ?_
    refine SXL.nil ?_
    refine thenQ.normal ?_
    refine SX.seq ?_
    refine SX.condP rfl (fun c27 => ?_) (fun c27 => ?_)
    · refine SX.skip ?_
      refine thenQ.normal ?_
      refine SX.seq ?_
      refine SX.block ?_
      refine SX.seq ?_
      obtain ⟨bs, os, has_, hms⟩ := hs.street (i := i) (by omega)
      have hLk := hL2 i (by omega)
      refine SX.region ?_
      refine SXL.move rfl ?_
      refine SXL.indexR el_23 rfl rfl has_ (by omega) ?_
      refine SXL.loadN sh_73 rfl (hms _) rfl ?_
      refine SXL.alloc zp_73 ?_; intro b2
      refine SXL.assign rfl ?_
      refine SXL.store 2 sz_73 rfl rfl rfl rfl rfl rfl ?_
      refine SXL.nil ?_
      refine thenQ.normal ?_
      refine SX.seq ?_
      refine SX.region ?_
      refine SXL.fieldAddr fp_73_3 rfl ?_
      refine SXL.load1o 2 sh_33 rfl rfl rfl ?_
      refine SXL.len is_33 rfl ?_
      refine SXL.move rfl ?_
      refine SXL.nil ?_
      refine thenQ.normal ?_
      refine SX.block ?_
      refine SX.loopW (α := Nat) [1, 2, 3, 6, 7, 8, 9, 11, 16, 17, 18, 24, 25, 26, 32, 33] rfl (fun j => [(34, .int .i64 ((j : Int))), (10, .bool (decide (opnB u b (u.founts.getD k default).id i ∨ (hasI b i ∧ (u.founts.getD k default).id ∈ (u.streets.getD i default).draws.take j))))]) (fun j => [(b0, .cells ⟨[.slice fo u.founts.length fc, .slice so u.streets.length sc]⟩ 25 (0, 0)), (b1, .cells ⟨foC (u.founts.getD k default) (fa k)⟩ 70 (0, 0)), (b2, .cells ⟨srC (u.streets.getD i default) (sa i)⟩ 73 (0, 0))]) (fun j => []) (fun j => j ≤ (u.streets.getD i default).draws.length) (fun j => (u.streets.getD i default).draws.length - j) 0 (Nat.zero_le _) ⟨rfl, congrArg (fun z => some (Value.bool z)) (decide_eq_decide.2 ⟨.inl, fun h => h.elim (fun h => h) (fun h => absurd h.2 (by simp))⟩), trivial⟩ rfl ?_
      rintro j hj
      refine SX.seq ?_
      refine SX.region ?_
      refine SXL.lss rfl rfl ?_
      refine SXL.nil ?_
      refine thenQ.normal ?_
      refine SX.seq ?_
      refine SX.condP rfl (fun c35 => ?_) (fun c35 => ?_)
      · refine SX.skip ?_
        refine thenQ.normal ?_
        refine SX.seq ?_
        refine SX.block ?_
        refine SX.seq ?_
        obtain ⟨bd, od, had, hmd⟩ := oneI (hs.draws i (by omega)) (i := j) (by omega)
        refine SX.region ?_
        refine SXL.indexR el_33 rfl rfl had (by omega) ?_
        refine SXL.load1 sh_3 rfl (hmd _) ?_
        refine SXL.assign rfl ?_
        refine SXL.nil ?_
        refine thenQ.normal ?_
        refine SX.region ?_
        refine SXL.move rfl ?_
        refine SXL.move rfl ?_
        apply SXL.orG 9
        case hl => exact rfl
        case hd => exact rfl
        case hg => exact rfl
        case ht =>
          intro g4
          refine SXL.pass rfl rfl rfl ?_
          refine SXL.pass rfl rfl rfl ?_
          refine SXL.pass rfl rfl rfl ?_
          refine SXL.pass rfl rfl rfl ?_
          refine SXL.pass rfl rfl rfl ?_
          refine SXL.pass rfl rfl rfl ?_
          refine SXL.pass rfl rfl rfl ?_
          refine SXL.pass rfl rfl rfl ?_
          refine SXL.pass rfl rfl rfl ?_
          exact SXL.nil (segQ.mk (.skip rfl (.skip rfl (.skip rfl (.skip rfl (.skip rfl (.skip rfl (.skip rfl (.skip rfl (.skip rfl (.skip rfl (EnvSub.refl _))))))))))) rfl rfl rfl)
        case hf =>
          intro g4
          refine SXL.move rfl ?_
          refine SXL.move rfl ?_
          refine SXL.call1 (.bool (decide (hasI b i))) fn_97 rfl (fun w hI => has_any b i (by omega) (by omega) w) ?_
          refine SXL.move rfl ?_
          apply SXL.andG 4
          case hl => exact rfl
          case hd => exact rfl
          case hg => exact rfl
          case ht =>
            intro g5
            refine SXL.move rfl ?_
            refine SXL.fieldAddr fp_70_0 rfl ?_
            refine SXL.load1o 1 sh_3 rfl rfl rfl ?_
            refine SXL.eqlI rfl rfl ?_
            exact SXL.nil (segQ.mk (.skip rfl (.skip rfl (.skip rfl (.skip rfl (.skip rfl (EnvSub.refl _)))))) rfl rfl ⟨rfl, rfl⟩)
          case hf =>
            intro g5
            refine SXL.pass rfl rfl rfl ?_
            refine SXL.pass rfl rfl rfl ?_
            refine SXL.pass rfl rfl rfl ?_
            refine SXL.pass rfl rfl rfl ?_
            exact SXL.nil (segQ.mk (.skip rfl (.skip rfl (.skip rfl (.skip rfl (.skip rfl (EnvSub.refl _)))))) rfl rfl rfl)
          exact SXL.nil (segQ.mk (.skip rfl (.skip rfl (.skip rfl (.skip rfl (.skip rfl (EnvSub.refl _)))))) rfl rfl ⟨rfl, rfl⟩)
        refine SXL.assign rfl ?_
        refine SXL.nil ?_
        refine blockQ.normal ?_
        refine thenQ.normal ?_
        refine SX.region ?_
        refine SXL.add rfl rfl (by omega) ?_
        refine SXL.move rfl ?_
        refine SXL.nil ?_
        refine thenQ.normal ?_
        refine ⟨j + 1, MeetsW.mkP _ ⟨rfl, congrArg (fun z => some (Value.bool z)) (decide_eq_decide.2 (by rw [mem_take_snoc (show j < (u.streets.getD i default).draws.length by omega)]; exact ⟨fun h => h.elim (fun h => h.elim .inl (fun h => .inr ⟨h.1, .inl h.2⟩)) (fun h => .inr ⟨h.1, .inr h.2.symm⟩), fun h => h.elim (fun h => .inl (.inl h)) (fun h => h.2.elim (fun g => .inl (.inr ⟨h.1, g⟩)) (fun g => .inr ⟨h.1, g.symm⟩))⟩)), trivial⟩ ⟨rfl, rfl, rfl, rfl, rfl, rfl, rfl, rfl, rfl, rfl, rfl, rfl, rfl, rfl, rfl, rfl, trivial⟩ rfl, (by omega), (by omega)⟩
      · refine SX.exit ?_
        refine thenQ.exit ?_
        refine thenQ.exit ?_
        refine blockQ.exit ?_
        refine blockQ.normal ?_
        refine thenQ.normal ?_
        refine SX.region ?_
        refine SXL.add rfl rfl (by omega) ?_
        refine SXL.move rfl ?_
        refine SXL.nil ?_
        refine thenQ.normal ?_
        refine ⟨i + 1, MeetsW.mkP _ ⟨rfl, congrArg (fun z => some (Value.bool z)) (decide_eq_decide.2 (by rw [List.take_of_length_le (by omega)]; rfl)), trivial⟩ ⟨rfl, rfl, rfl, rfl, rfl, rfl, rfl, rfl, rfl, rfl, rfl, rfl, trivial⟩ rfl, (by omega), (by omega)⟩
    · refine SX.exit ?_
      refine thenQ.exit ?_
      refine thenQ.exit ?_
      refine blockQ.exit ?_
      refine thenQ.normal ?_
      refine SX.seq ?_
      obtain rfl : i = u.streets.length := by omega
      refine SX.region ?_
      refine SXL.move rfl ?_
      refine SXL.nil ?_
      refine thenQ.normal ?_
      refine SX.condP rfl (fun c52 => ?_) (fun c52 => ?_)
      · obtain ⟨bw, ow, haw, hmw⟩ := oneI hwo (i := k) (by omega)
        refine SX.region ?_
        refine SXL.move rfl ?_
        refine SXL.move rfl ?_
        refine SXL.move rfl ?_
        refine SXL.indexR el_33 rfl rfl haw (by omega) ?_
        refine SXL.load1 sh_3 rfl (hmw _) ?_
        refine SXL.add rfl rfl (by omega) ?_
        refine SXL.assign rfl ?_
        refine SXL.nil ?_
        refine blockQ.normal ?_
        refine thenQ.normal ?_
        refine SX.region ?_
        refine SXL.add rfl rfl (by omega) ?_
        refine SXL.move rfl ?_
        refine SXL.nil ?_
        refine thenQ.normal ?_
        refine ⟨(k + 1, _), MeetsW.mkP _ ⟨rfl, rfl, trivial⟩ ⟨rfl, rfl, rfl, rfl, rfl, rfl, trivial⟩ rfl, ⟨by omega, ?_⟩, (show u.founts.length - (k + 1) < u.founts.length - k by omega)⟩
        first
          | (rw [thrTo, if_pos c52])
          | (rw [thrTo, if_neg c52])
      · refine SX.skip ?_
        refine blockQ.normal ?_
        refine thenQ.normal ?_
        refine SX.region ?_
        refine SXL.add rfl rfl (by omega) ?_
        refine SXL.move rfl ?_
        refine SXL.nil ?_
        refine thenQ.normal ?_
        refine ⟨(k + 1, _), MeetsW.mkP _ ⟨rfl, rfl, trivial⟩ ⟨rfl, rfl, rfl, rfl, rfl, rfl, trivial⟩ rfl, ⟨by omega, ?_⟩, (show u.founts.length - (k + 1) < u.founts.length - k by omega)⟩
        first
          | (rw [thrTo, if_pos c52])
          | (rw [thrTo, if_neg c52])
  · refine SX.exit ?_
    refine thenQ.exit ?_
    refine thenQ.exit ?_
    refine blockQ.exit ?_
    refine thenQ.normal ?_
    refine SX.seq ?_
    obtain rfl : k = u.founts.length := by omega
    refine SX.region ?_
    refine SXL.move rfl ?_
    refine SXL.assign rfl ?_
    refine SXL.nil ?_
    refine thenQ.normal ?_
    refine SX.ret ?_
    refine retQ.one (ResAt.tmp rfl) ?_
    rfl
theorem rcan_any (u : Su) (fo so : Option Addr) (fc sc : Nat) (fa : Nat → FA) (sa : Nat → DA) (W L : List Int) (wo lo : Option Addr) (wc lc : Nat) (hW : W.length = u.founts.length) (hWs : Sm W) (hLn : L.length ≤ 5) (hLs : Sm L) (hl : LitP u) (w : World) (hs : SuAt w u fo so fa sa) (hwo : RowsAt w wo 1 (ones W)) (hlo : RowsAt w lo 1 (ones L)) :
    CallsR Tryd.prog 58 [.agg ⟨[.slice fo u.founts.length fc, .slice so u.streets.length sc]⟩, .slice wo W.length wc, .slice lo L.length lc] w (fun v _ => v = .bool (decide (CanP u W L))) := by
  have hpw : (2 : Nat) ^ L.length ≤ 32 := Nat.le_trans (Nat.pow_le_pow_right (by omega) hLn) (by decide)
  refine CallsR.of_SX (n := 23) (rs := [.tmp 6]) Tryd.func58 rfl rfl rfl rfl ?_
  show SX _ _ _ ⟨[(0, .agg ⟨[.slice fo u.founts.length fc, .slice so u.streets.length sc]⟩), (1, .slice wo W.length wc), (2, .slice lo L.length lc)], [], []⟩
  refine SX.seq ?_
  refine SX.region ?_
  refine SXL.box rfl rfl ?_; intro b0
  refine SXL.assign rfl ?_
  refine SXL.nil ?_
  refine thenQ.normal ?_
  refine SX.seq ?_
  refine SX.seq ?_
  refine SX.region ?_
  refine SXL.assign rfl ?_
  refine SXL.nil ?_
  refine thenQ.normal ?_
  refine SX.block ?_
  refine SX.loopW (α := Nat) [1, 2, 3, 6] rfl (fun b => [(7, .int .i64 ((b : Int)))]) (fun b => [(b0, .cells ⟨[.slice fo u.founts.length fc, .slice so u.streets.length sc]⟩ 25 (0, 0))]) (fun b => []) (fun b => b ≤ 2 ^ L.length ∧ ∀ i, i < b → sumB i L ≤ thr u i W) (fun b => 2 ^ L.length - b) 0 ⟨Nat.zero_le _, fun _ h => absurd h (Nat.not_lt_zero _)⟩ ⟨rfl, trivial⟩ rfl ?_
  rintro b ⟨hb, hall⟩
  refine SX.seq ?_
  refine SX.seq ?_
  refine SX.region ?_
  refine SXL.move rfl ?_
  refine SXL.move rfl ?_
  refine SXL.len is_33 rfl ?_
  refine SXL.shlN rfl rfl (by omega) ?_
  refine SXL.lss rfl rfl ?_
  refine SXL.nil ?_
  refine thenQ.normal ?_
  refine SX.condP rfl (fun c12 => ?_) (fun c12 => ?_)
  · refine SX.skip ?_
    refine thenQ.normal ?_
    refine SX.seq ?_
    refine SX.block ?_
    refine SX.seq ?_
    refine SX.draw 8 (by kernel_rfl) (by kernel_rfl) {} ?_
    refine SXA.take 0 8 rfl (by kernel_rfl) rfl ?_
    refine SXL.move rfl ?_
    refine SXL.move rfl ?_
    refine SXL.call1 (.int .i64 (sumB b L)) fn_76 rfl (fun w hI => rsum_any b L lo lc (by omega) (by omega) hLs w (hlo.inv hI)) ?_
    refine SXL.loadNo 0 sh_25 rfl rfl rfl ?_
    refine SXL.move rfl ?_
    refine SXL.move rfl ?_
    refine SXL.call1 (.int .i64 (thr u b W)) fn_77 rfl (fun w hI => rthere_any u fo so fc sc fa sa b W wo wc (by omega) hW hWs hl w (hs.inv hI) (hwo.inv hI)) ?_
    refine SXL.gtr rfl rfl ?_
    refine SXL.nil ⟨rfl, rfl, rfl, ?_⟩
    refine SXA.done (by kernel_rfl) ?_
    refine SXL.nil ?_
    refine thenQ.normal ?_
    refine SX.condP rfl (fun c22 => ?_) (fun c22 => ?_)
    · refine SX.seq ?_
      refine SX.region ?_
      refine SXL.assign rfl ?_
      refine SXL.nil ?_
      refine thenQ.normal ?_
      refine SX.ret ?_
      refine blockQ.ret ?_
      refine thenQ.ret ?_
      refine thenQ.ret ?_
      refine blockQ.ret ?_
      refine thenQ.ret ?_
      refine retQ.one (ResAt.tmp rfl) ?_
      exact congrArg Value.bool (decide_eq_false (by intro h; have := h b (by omega); omega)).symm
    · refine SX.skip ?_
      refine blockQ.normal ?_
      refine thenQ.normal ?_
      refine SX.region ?_
      refine SXL.move rfl ?_
      refine SXL.add rfl rfl (by omega) ?_
      refine SXL.assign rfl ?_
      refine SXL.nil ?_
      refine thenQ.normal ?_
      refine ⟨b + 1, MeetsW.mkP _ ⟨rfl, trivial⟩ ⟨rfl, rfl, rfl, rfl, trivial⟩ rfl, ?_, (by omega)⟩
      refine ⟨by omega, fun i hi => ?_⟩
      by_cases e : i = b
      · subst e; omega
      · exact hall i (by omega)
  · refine SX.exit ?_
    refine thenQ.exit ?_
    refine thenQ.exit ?_
    refine blockQ.exit ?_
    refine thenQ.normal ?_
    refine SX.seq ?_
    refine SX.region ?_
    refine SXL.assign rfl ?_
    refine SXL.nil ?_
    refine thenQ.normal ?_
    refine SX.ret ?_
    refine retQ.one (ResAt.tmp rfl) ?_
    exact congrArg Value.bool (decide_eq_true (fun i hi => hall i (by omega))).symm
theorem rknown_any (p q : Prop) [Decidable p] [Decidable q] (w : World) :
    CallsR Tryd.prog 49 [.bool (decide (p)), .bool (decide (q))] w (fun v _ => v = .int .u8 (knT 0 q p)) := by
  refine CallsR.of_SX (n := 7) (rs := [.tmp 4]) Tryd.func49 rfl rfl rfl rfl ?_
  show SX _ _ _ ⟨[(0, .bool (decide (p))), (1, .bool (decide (q)))], [], []⟩
  refine SX.seq ?_
  refine SX.region ?_
  refine SXL.assign rfl ?_
  refine SXL.nil ?_
  refine thenQ.normal ?_
  refine SX.seq ?_
  refine SX.seq ?_
  refine SX.region ?_
  refine SXL.move rfl ?_
  refine SXL.nil ?_
  refine thenQ.normal ?_
  refine SX.condP rfl (fun c5 => ?_) (fun c5 => ?_)
  · refine SX.seq ?_
    refine SX.region ?_
    refine SXL.assign rfl ?_
    refine SXL.nil ?_
    refine thenQ.normal ?_
    refine SX.ret ?_
    refine thenQ.ret ?_
    refine retQ.one (ResAt.tmp rfl) ?_
    rw [knT, if_neg (fun h => h rfl), if_pos c5]
  · refine SX.skip ?_
    refine thenQ.normal ?_
    refine SX.seq ?_
    refine SX.seq ?_
    refine SX.region ?_
    refine SXL.move rfl ?_
    refine SXL.nil ?_
    refine thenQ.normal ?_
    refine SX.condP rfl (fun c6 => ?_) (fun c6 => ?_)
    · refine SX.seq ?_
      refine SX.region ?_
      refine SXL.assign rfl ?_
      refine SXL.nil ?_
      refine thenQ.normal ?_
      refine SX.ret ?_
      refine thenQ.ret ?_
      refine retQ.one (ResAt.tmp rfl) ?_
      rw [knT, if_neg (fun h => h rfl), if_neg c5, if_pos c6]
    · refine SX.skip ?_
      refine thenQ.normal ?_
      refine SX.seq ?_
      refine SX.region ?_
      refine SXL.assign rfl ?_
      refine SXL.nil ?_
      refine thenQ.normal ?_
      refine SX.ret ?_
      refine retQ.one (ResAt.tmp rfl) ?_
      rw [knT, if_neg (fun h => h rfl), if_neg c5, if_neg c6]
end Go.Proofs.YtolcicaclflagaaDoor

/- The walks of the reference of layer 9: the most, leasts, which pint more helps. -/
namespace Go.Proofs.YtolcicaclflagaaDoor
open Go.X Go.S Go.T Go.RowKit
theorem rflow_any (u : Su) (fo so : Option Addr) (fc sc : Nat) (fa : Nat → FA) (sa : Nat → DA) (W L : List Int) (wo lo : Option Addr) (wc lc : Nat) (hW : W.length = u.founts.length) (hWs : Sm W) (hLn : L.length ≤ 5) (hLs : Sm L) (hz : (1 ≤ u.founts.length ∧ u.founts.length ≤ 4) ∧ u.streets.length ≤ 5) (hl : LitP u) (w : World) (hs : SuAt w u fo so fa sa) (hwo : RowsAt w wo 1 (ones W)) (hlo : RowsAt w lo 1 (ones L)) :
    CallsR Tryd.prog 80 [.agg ⟨[.slice fo u.founts.length fc, .slice so u.streets.length sc]⟩, .slice wo W.length wc, .slice lo L.length lc] w (fun v _ => v = .int .i64 (flow u W L)) := by
  have hpw : (2 : Nat) ^ L.length ≤ 32 := Nat.le_trans (Nat.pow_le_pow_right (by omega) hLn) (by decide)
  have hp1 : 1 ≤ 2 ^ L.length := Nat.two_pow_pos _
  have htt := totTo_in hLs L.length
  have ea : (((2 ^ L.length : Nat) : Int) - 1) = ((2 ^ L.length - 1 : Nat) : Int) := by omega
  refine CallsR.of_SX (n := 35) (rs := [.tmp 6]) Tryd.func80 rfl rfl rfl rfl ?_
  show SX _ _ _ ⟨[(0, .agg ⟨[.slice fo u.founts.length fc, .slice so u.streets.length sc]⟩), (1, .slice wo W.length wc), (2, .slice lo L.length lc)], [], []⟩
  refine SX.seq ?_
  refine SX.region ?_
  refine SXL.box rfl rfl ?_; intro b0
  refine SXL.assign rfl ?_
  refine SXL.nil ?_
  refine thenQ.normal ?_
  refine SX.seq ?_
  refine SX.region ?_
  refine SXL.move rfl ?_
  refine SXL.len is_33 rfl ?_
  refine SXL.shlN rfl rfl (by omega) ?_
  refine SXL.sub rfl rfl (by omega) ?_
  rw [ea]
  refine SXL.assign rfl ?_
  refine SXL.nil ?_
  refine thenQ.normal ?_
  refine SX.seq ?_
  refine SX.region ?_
  refine SXL.move rfl ?_
  refine SXL.move rfl ?_
  refine SXL.call1 (.int .i64 (sumB (2 ^ L.length - 1) L)) fn_76 rfl (fun w hI => rsum_any (2 ^ L.length - 1) L lo lc (by omega) (by omega) hLs w (hlo.inv hI)) ?_
  refine SXL.assign rfl ?_
  refine SXL.nil ?_
  refine thenQ.normal ?_
  refine SX.seq ?_
  refine SX.seq ?_
  refine SX.region ?_
  refine SXL.assign rfl ?_
  refine SXL.nil ?_
  refine thenQ.normal ?_
  refine SX.block ?_
  refine SX.loopW (α := Nat × Int) [1, 2, 3, 6, 7] rfl (fun ⟨b, m⟩ => [(9, .int .i64 ((b : Int))), (8, .int .i64 m)]) (fun ⟨b, m⟩ => [(b0, .cells ⟨[.slice fo u.founts.length fc, .slice so u.streets.length sc]⟩ 25 (0, 0))]) (fun ⟨b, m⟩ => []) (fun ⟨b, m⟩ => b ≤ 2 ^ L.length ∧ m = flowTo u W L b) (fun ⟨b, m⟩ => 2 ^ L.length - b) (0, sumB (2 ^ L.length - 1) L) ⟨Nat.zero_le _, sumB_all L⟩ ⟨rfl, rfl, trivial⟩ rfl ?_
  rintro ⟨b, m⟩ ⟨hb, hm⟩
  refine SX.seq ?_
  refine SX.seq ?_
  refine SX.region ?_
  refine SXL.move rfl ?_
  refine SXL.move rfl ?_
  refine SXL.leq rfl rfl ?_
  refine SXL.nil ?_
  refine thenQ.normal ?_
  refine SX.condP rfl (fun c19 => ?_) (fun c19 => ?_)
  · refine SX.skip ?_
    refine thenQ.normal ?_
    refine SX.seq ?_
    refine SX.block ?_
    refine SX.draw 13 (by kernel_rfl) (by kernel_rfl) {} ?_
    refine SXA.take 0 13 rfl (by kernel_rfl) rfl ?_
    refine SXL.move rfl ?_
    refine SXL.move rfl ?_
    refine SXL.move rfl ?_
    refine SXL.sub rfl rfl (by omega) ?_
    rw [show (((2 ^ L.length - 1 : Nat) : Int) - (b : Int)) = ((2 ^ L.length - 1 - b : Nat) : Int) by omega]
    refine SXL.move rfl ?_
    refine SXL.call1 (.int .i64 (sumB (2 ^ L.length - 1 - b) L)) fn_76 rfl (fun w hI => rsum_any (2 ^ L.length - 1 - b) L lo lc (by omega) (by omega) hLs w (hlo.inv hI)) ?_
    refine SXL.loadNo 0 sh_25 rfl rfl rfl ?_
    refine SXL.move rfl ?_
    refine SXL.move rfl ?_
    refine SXL.call1 (.int .i64 (thr u b W)) fn_77 rfl (fun w hI => rthere_any u fo so fc sc fa sa b W wo wc (by omega) hW hWs hl w (hs.inv hI) (hwo.inv hI)) ?_
    refine SXL.add rfl rfl (by rw [sumB_not (by omega)]; have h1 := sumTo_in (b := b) hLs L.length; have h2 := thrTo_in (u := u) (b := b) hWs u.founts.length; unfold totL sumB thr; omega) ?_
    refine SXL.min rfl rfl ?_
    refine SXL.assign rfl ?_
    refine SXL.nil ⟨rfl, rfl, rfl, ?_⟩
    refine SXA.done (by kernel_rfl) ?_
    refine SXL.nil ?_
    refine blockQ.normal ?_
    refine thenQ.normal ?_
    refine SX.region ?_
    refine SXL.move rfl ?_
    refine SXL.add rfl rfl (by omega) ?_
    refine SXL.assign rfl ?_
    refine SXL.nil ?_
    refine thenQ.normal ?_
    refine ⟨(b + 1, _), MeetsW.mkP _ ⟨rfl, rfl, trivial⟩ ⟨rfl, rfl, rfl, rfl, rfl, trivial⟩ rfl, ⟨by omega, ?_⟩, (show 2 ^ L.length - (b + 1) < 2 ^ L.length - b by omega)⟩
    rw [hm, sumB_not (by omega)]; rfl
  · refine SX.exit ?_
    refine thenQ.exit ?_
    refine thenQ.exit ?_
    refine blockQ.exit ?_
    refine thenQ.normal ?_
    refine SX.seq ?_
    refine SX.region ?_
    refine SXL.move rfl ?_
    refine SXL.assign rfl ?_
    refine SXL.nil ?_
    refine thenQ.normal ?_
    refine SX.ret ?_
    refine retQ.one (ResAt.tmp rfl) ?_
    have hbe : b = 2 ^ L.length := by omega
    rw [hm, hbe]; rfl
theorem rflow_n (u : Su) (fo so : Option Addr) (fc sc : Nat) (fa : Nat → FA) (sa : Nat → DA) (W L : List Int) (wo lo : Option Addr) (wn wc lc : Nat) (hwn : W.length = wn) (hW : W.length = u.founts.length) (hWs : Sm W) (hLn : L.length ≤ 5) (hLs : Sm L) (hz : (1 ≤ u.founts.length ∧ u.founts.length ≤ 4) ∧ u.streets.length ≤ 5) (hl : LitP u) (w : World) (hs : SuAt w u fo so fa sa) (hwo : RowsAt w wo 1 (ones W)) (hlo : RowsAt w lo 1 (ones L)) :
    CallsR Tryd.prog 80 [.agg ⟨[.slice fo u.founts.length fc, .slice so u.streets.length sc]⟩, .slice wo wn wc, .slice lo L.length lc] w (fun v _ => v = .int .i64 (flow u W L)) := by
  subst hwn; exact rflow_any u fo so fc sc fa sa W L wo lo wc lc hW hWs hLn hLs hz hl w hs hwo hlo
set_option maxHeartbeats 1000000 in
theorem rmost_any (u : Su) (fo so : Option Addr) (fc sc : Nat) (fa : Nat → FA) (sa : Nat → DA) (week : Int) (hl : LitP u) (w : World) (hs : SuAt w u fo so fa sa) :
    CallsR Tryd.prog 30 [.agg ⟨[.slice fo u.founts.length fc, .slice so u.streets.length sc]⟩, .int .i64 week] w (fun v _ => v = .tuple ⟨[.agg ⟨[.int .i64 (moLo u week), .int .i64 (moHi u week)]⟩, .int .i64 (askT u week True 0)]⟩) := by
  refine CallsR.of_SX (n := 29) (rs := [.cell 4 55, .tmp 5]) Tryd.func30 rfl rfl rfl rfl ?_
  show SX _ _ _ ⟨[(0, .agg ⟨[.slice fo u.founts.length fc, .slice so u.streets.length sc]⟩), (1, .int .i64 week)], [], []⟩
  refine SX.seq ?_
  refine SX.region ?_
  refine SXL.box rfl rfl ?_; intro b0
  refine SXL.alloc zp_55 ?_; intro b1
  refine SXL.assign rfl ?_
  refine SXL.nil ?_
  refine thenQ.normal ?_
  refine SX.seq ?_
  refine SX.seq ?_
  refine SX.region ?_
  refine SXL.loadNo 0 sh_25 rfl rfl rfl ?_
  refine SXL.move rfl ?_
  refine SXL.call1 (.int .i64 (askT u (week) True 0)) fn_44 rfl (fun w hI => rasked_any u fo so fc sc fa sa (week) hl w (hs.inv hI)) ?_
  refine SXL.assign rfl ?_
  refine SXL.nil ?_
  refine thenQ.normal ?_
  refine SX.seq ?_
  refine SX.region ?_
  refine SXL.move rfl ?_
  refine SXL.neqI rfl rfl ?_
  refine SXL.nil ?_
  refine thenQ.normal ?_
  refine SX.condP rfl (fun c11 => ?_) (fun c11 => ?_)
  · refine SX.seq ?_
    refine SX.region ?_
    refine SXL.buildS pl_55 zp_55 rfl rfl ?_
    refine SXL.move rfl ?_
    refine SXL.store 1 sz_55 rfl rfl rfl rfl rfl rfl ?_
    refine SXL.assign rfl ?_
    refine SXL.nil ?_
    refine thenQ.normal ?_
    refine SX.ret ?_
    refine thenQ.ret ?_
    refine retQ.dead [] rfl ?_
    refine retQ.two (ResAt.cellNo 1 sh_55 rfl rfl rfl) (ResAt.tmp rfl) ?_
    rw [moLo, moHi, if_neg c11, if_neg c11]
  · refine SX.skip ?_
    refine thenQ.normal ?_
    refine SX.seq ?_
    have he := Classical.not_not.1 c11
    obtain ⟨hv, hw, _, ht⟩ := askT_ok (fun h => absurd trivial h) he
    have hz := hv.1
    unfold SizeP at hz
    refine SX.draw 15 (by kernel_rfl) (by kernel_rfl) {} ?_
    refine SXA.take 0 3 rfl (by kernel_rfl) rfl ?_
    refine SXL.loadNo 0 sh_25 rfl rfl rfl ?_
    refine SXL.loadNo 0 sh_25 rfl rfl rfl ?_
    refine SXL.move rfl ?_
    refine SXL.nil ⟨rfl, rfl, rfl, ?_⟩
    refine SXA.take 4 1 rfl (by kernel_rfl) rfl ?_
    refine SXL.loadNo 0 sh_25 rfl rfl rfl ?_
    refine SXL.nil ⟨rfl, rfl, rfl, ?_⟩
    refine SXA.take 7 3 rfl (by kernel_rfl) rfl ?_
    refine SXL.loadNo 0 sh_25 rfl rfl rfl ?_
    refine SXL.loadNo 0 sh_25 rfl rfl rfl ?_
    refine SXL.move rfl ?_
    refine SXL.nil ⟨rfl, rfl, rfl, ?_⟩
    refine SXA.take 11 1 rfl (by kernel_rfl) rfl ?_
    refine SXL.loadNo 0 sh_25 rfl rfl rfl ?_
    refine SXL.nil ⟨rfl, rfl, rfl, ?_⟩
    refine SXA.all [3] (by kernel_rfl) rfl ⟨⟨?_, rfl⟩, trivial⟩
    refine (show SXL _ _ [_] _ _ from ?_)
    refine SXL.callF (IsI (waterL u (week) (false))) fn_45 rfl (fun w hI => given_any u fo so fc sc fa sa (week) (false) hl w (hs.inv hI)) ?_; rintro _ _ ⟨qw1, ow1, rfl, rfl⟩
    refine SXL.nil (stepQ.mk _ rfl rfl ?_)
    refine SXA.all [5] (by kernel_rfl) rfl ⟨⟨?_, rfl⟩, trivial⟩
    refine (show SXL _ _ [_] _ _ from ?_)
    refine SXL.callF (IsI (needs u (true))) fn_74 rfl (fun w hI => needed_any u fo so fc sc fa sa (true) hl w (hs.inv hI)) ?_; rintro _ _ ⟨qn1, on1, rfl, rfl⟩
    refine SXL.nil (stepQ.mk _ rfl rfl ?_)
    refine SXA.take 6 1 rfl (by kernel_rfl) rfl ?_
    refine SXL.call1 (.int .i64 (flow u (waterL u week false) (needs u true))) fn_80 rfl (fun w hI => rflow_any u fo so fc sc fa sa (waterL u week false) (needs u true) qw1.addr qn1.addr qw1.cap qn1.cap (waterL_len u _ _) (water_sm hv ht hw _) (by rw [needs_len]; omega) (needs_sm hv _) hz hl w (hs.inv hI) (slOnes hI ow1 (i := 2) rfl) (slOnes hI on1 (i := 3) rfl)) ?_
    refine SXL.nil ⟨rfl, rfl, rfl, ?_⟩
    refine SXA.all [10] (by kernel_rfl) rfl ⟨⟨?_, rfl⟩, trivial⟩
    refine (show SXL _ _ [_] _ _ from ?_)
    refine SXL.callF (IsI (waterL u (week) (true))) fn_45 rfl (fun w hI => given_any u fo so fc sc fa sa (week) (true) hl w (hs.inv hI)) ?_; rintro _ _ ⟨qw2, ow2, rfl, rfl⟩
    refine SXL.nil (stepQ.mk _ rfl rfl ?_)
    refine SXA.all [12] (by kernel_rfl) rfl ⟨⟨?_, rfl⟩, trivial⟩
    refine (show SXL _ _ [_] _ _ from ?_)
    refine SXL.callF (IsI (needs u (false))) fn_74 rfl (fun w hI => needed_any u fo so fc sc fa sa (false) hl w (hs.inv hI)) ?_; rintro _ _ ⟨qn2, on2, rfl, rfl⟩
    refine SXL.nil (stepQ.mk _ rfl rfl ?_)
    refine SXA.take 13 2 rfl (by kernel_rfl) rfl ?_
    refine SXL.call1 (.int .i64 (flow u (waterL u week true) (needs u false))) fn_80 rfl (fun w hI => rflow_any u fo so fc sc fa sa (waterL u week true) (needs u false) qw2.addr qn2.addr qw2.cap qn2.cap (waterL_len u _ _) (water_sm hv ht hw _) (by rw [needs_len]; omega) (needs_sm hv _) hz hl w (hs.inv hI) (slOnes hI ow2 (i := 4) rfl) (slOnes hI on2 (i := 5) rfl)) ?_
    refine SXL.buildS pl_55 zp_55 rfl rfl ?_
    refine SXL.nil ⟨rfl, rfl, rfl, ?_⟩
    refine SXA.done (by kernel_rfl) ?_
    refine SXL.store 1 sz_55 rfl rfl rfl rfl rfl rfl ?_
    refine SXL.assign rfl ?_
    refine SXL.nil ?_
    refine thenQ.normal ?_
    refine SX.ret ?_
    refine retQ.dead [] rfl ?_
    refine retQ.two (ResAt.cellNo 1 sh_55 rfl rfl rfl) (ResAt.tmp rfl) ?_
    rw [moLo, moHi, if_pos he, if_pos he, he]
theorem rleasts_any (u : Su) (fo so : Option Addr) (fc sc : Nat) (fa : Nat → FA) (sa : Nat → DA) (hl : LitP u) (w : World) (hs : SuAt w u fo so fa sa) :
    CallsR Tryd.prog 57 [.agg ⟨[.slice fo u.founts.length fc, .slice so u.streets.length sc]⟩] w (IsI (leasts u)) := by
  have hL0 := hl.1
  have hL1 := hl.2.1
  have hL2 := hl.2.2
  refine CallsR.of_SX (n := 20) (rs := [.tmp 2]) Tryd.func57 rfl rfl rfl rfl ?_
  show SX _ _ _ ⟨[(0, .agg ⟨[.slice fo u.founts.length fc, .slice so u.streets.length sc]⟩)], [], []⟩
  refine SX.seq ?_
  refine SX.region ?_
  refine SXL.box rfl rfl ?_; intro b0
  refine SXL.assign rfl ?_
  refine SXL.nil ?_
  refine thenQ.normal ?_
  refine SX.seq ?_
  refine SX.pad (Sl.nil.ent 3 []) rfl ?_
  refine SX.region ?_
  refine SXL.assign rfl ?_
  refine SXL.nil ?_
  refine thenQ.normal ?_
  refine SX.seq ?_
  refine SX.seq ?_
  refine SX.region ?_
  refine SXL.fieldAddr fp_25_1 rfl ?_
  refine SXL.load1o 0 sh_23 rfl rfl rfl ?_
  refine SXL.len is_23 rfl ?_
  refine SXL.move rfl ?_
  refine SXL.nil ?_
  refine thenQ.normal ?_
  refine SX.block ?_
  refine SX.loopW (α := Nat × Sl × Nat × List Value) [2, 7, 8] rfl (fun ⟨k, q, n, c⟩ => [(9, .int .i64 ((k : Int))), (3, q.val n)]) (fun ⟨k, q, n, c⟩ => [(b0, .cells ⟨[.slice fo u.founts.length fc, .slice so u.streets.length sc]⟩ 25 (0, 0)), q.ent 3 c]) (fun ⟨k, q, n, c⟩ => []) (fun ⟨k, q, n, c⟩ => k ≤ u.streets.length ∧ q.Ok n 1 c ∧ n = k ∧ c = ints ((leasts u).take k)) (fun ⟨k, q, n, c⟩ => u.streets.length - k) (0, Sl.nil, 0, []) ⟨Nat.zero_le _, .none _, rfl, rfl⟩ ⟨rfl, rfl, trivial⟩ rfl ?_
  rintro ⟨k, q, n, c⟩ ⟨hk, ho, rfl, rfl⟩
  refine SX.seq ?_
  refine SX.region ?_
  refine SXL.lss rfl rfl ?_
  refine SXL.nil ?_
  refine thenQ.normal ?_
  refine SX.seq ?_
  refine SX.condP rfl (fun c10 => ?_) (fun c10 => ?_)
  · refine SX.skip ?_
    refine thenQ.normal ?_
    refine SX.seq ?_
    refine SX.block ?_
    refine SX.seq ?_
    obtain ⟨b, o, ha, hm⟩ := hs.street (i := n) (by omega)
    refine SX.region ?_
    refine SXL.indexR el_23 rfl rfl ha (by omega) ?_
    refine SXL.loadN sh_73 rfl (hm _) rfl ?_
    refine SXL.alloc zp_73 ?_; intro b2
    refine SXL.store 2 sz_73 rfl rfl rfl rfl rfl rfl ?_
    refine SXL.nil ?_
    refine thenQ.normal ?_
    refine SX.region ?_
    refine SXL.move rfl ?_
    refine SXL.fieldAddr fp_73_2 rfl ?_
    refine SXL.load1o 2 sh_3 rfl rfl rfl ?_
    refine SXL.buildSlice et_33 zp_3 rfl rfl rfl rfl ?_; intro b3
    refine SXL.append 1 ap_33 rfl rfl ho rfl (.inr ⟨_, _, rfl, Mem.own (i := 3) rfl (takeAt_all _)⟩) rfl rfl ⟨by simp only [maxLen]; omega, by omega⟩ ?_; intro r_17 o_17
    refine SXL.assign rfl ?_
    refine SXL.nil ?_
    refine blockQ.normal ?_
    refine thenQ.normal ?_
    refine SX.region ?_
    refine SXL.add rfl rfl (by omega) ?_
    refine SXL.move rfl ?_
    refine SXL.nil ?_
    refine thenQ.normal ?_
    refine ⟨(n + 1, _, _, _), MeetsW.mkP _ ⟨rfl, rfl, trivial⟩ ⟨rfl, rfl, rfl, trivial⟩ rfl, ?_, (show u.streets.length - (n + 1) < u.streets.length - n by omega)⟩
    have e3 := take_snocI (l := leasts u) (k := n) (by rw [leasts_len]; omega)
    rw [leasts_at (by omega)] at e3
    exact ⟨by omega, o_17, rfl, by rw [e3, ints_snoc]; rfl⟩
  · refine SX.exit ?_
    refine thenQ.exit ?_
    refine thenQ.exit ?_
    refine blockQ.exit ?_
    refine thenQ.normal ?_
    refine SX.seq ?_
    refine SX.region ?_
    refine SXL.move rfl ?_
    refine SXL.assign rfl ?_
    refine SXL.nil ?_
    refine thenQ.normal ?_
    refine SX.ret ?_
    refine retQ.sel [1] rfl rfl ?_
    refine retQ.one (ResAt.tmp rfl) ?_
    obtain rfl : n = u.streets.length := by omega
    have e4 : (leasts u).take u.streets.length = leasts u := List.take_of_length_le (by rw [leasts_len]; omega)
    rw [e4] at ho ⊢
    exact ⟨q, by rw [leasts_len]; exact ho, by rw [leasts_len], rfl⟩
set_option maxHeartbeats 1000000 in
theorem rleast_any (u : Su) (fo so : Option Addr) (fc sc : Nat) (fa : Nat → FA) (sa : Nat → DA) (week : Int) (hl : LitP u) (w : World) (hs : SuAt w u fo so fa sa) :
    CallsR Tryd.prog 32 [.agg ⟨[.slice fo u.founts.length fc, .slice so u.streets.length sc]⟩, .int .i64 week] w (fun v _ => v = .tuple ⟨[.int .u8 (knT (askT u week True 0) (LeaP u week false) (LeaP u week true)), .int .i64 (askT u week True 0)]⟩) := by
  refine CallsR.of_SX (n := 28) (rs := [.tmp 4, .tmp 5]) Tryd.func32 rfl rfl rfl rfl ?_
  show SX _ _ _ ⟨[(0, .agg ⟨[.slice fo u.founts.length fc, .slice so u.streets.length sc]⟩), (1, .int .i64 week)], [], []⟩
  refine SX.seq ?_
  refine SX.region ?_
  refine SXL.box rfl rfl ?_; intro b0
  refine SXL.assign rfl ?_
  refine SXL.assign rfl ?_
  refine SXL.nil ?_
  refine thenQ.normal ?_
  refine SX.seq ?_
  refine SX.seq ?_
  refine SX.region ?_
  refine SXL.loadNo 0 sh_25 rfl rfl rfl ?_
  refine SXL.move rfl ?_
  refine SXL.call1 (.int .i64 (askT u (week) True 0)) fn_44 rfl (fun w hI => rasked_any u fo so fc sc fa sa (week) hl w (hs.inv hI)) ?_
  refine SXL.assign rfl ?_
  refine SXL.nil ?_
  refine thenQ.normal ?_
  refine SX.seq ?_
  refine SX.region ?_
  refine SXL.move rfl ?_
  refine SXL.neqI rfl rfl ?_
  refine SXL.nil ?_
  refine thenQ.normal ?_
  refine SX.condP rfl (fun c11 => ?_) (fun c11 => ?_)
  · refine SX.seq ?_
    refine SX.region ?_
    refine SXL.move rfl ?_
    refine SXL.assign rfl ?_
    refine SXL.assign rfl ?_
    refine SXL.nil ?_
    refine thenQ.normal ?_
    refine SX.ret ?_
    refine thenQ.ret ?_
    refine retQ.dead [] rfl ?_
    refine retQ.two (ResAt.tmp rfl) (ResAt.tmp rfl) ?_
    rw [knT, if_pos c11]
  · refine SX.skip ?_
    refine thenQ.normal ?_
    refine SX.seq ?_
    have he := Classical.not_not.1 c11
    obtain ⟨hv, hw, _, ht⟩ := askT_ok (fun h => absurd trivial h) he
    have hz := hv.1
    unfold SizeP at hz
    refine SX.draw 17 (by kernel_rfl) (by kernel_rfl) {} ?_
    refine SXA.take 0 3 rfl (by kernel_rfl) rfl ?_
    refine SXL.loadNo 0 sh_25 rfl rfl rfl ?_
    refine SXL.loadNo 0 sh_25 rfl rfl rfl ?_
    refine SXL.move rfl ?_
    refine SXL.nil ⟨rfl, rfl, rfl, ?_⟩
    refine SXA.take 4 1 rfl (by kernel_rfl) rfl ?_
    refine SXL.loadNo 0 sh_25 rfl rfl rfl ?_
    refine SXL.nil ⟨rfl, rfl, rfl, ?_⟩
    refine SXA.take 7 3 rfl (by kernel_rfl) rfl ?_
    refine SXL.loadNo 0 sh_25 rfl rfl rfl ?_
    refine SXL.loadNo 0 sh_25 rfl rfl rfl ?_
    refine SXL.move rfl ?_
    refine SXL.nil ⟨rfl, rfl, rfl, ?_⟩
    refine SXA.take 11 1 rfl (by kernel_rfl) rfl ?_
    refine SXL.loadNo 0 sh_25 rfl rfl rfl ?_
    refine SXL.nil ⟨rfl, rfl, rfl, ?_⟩
    refine SXA.all [3] (by kernel_rfl) rfl ⟨⟨?_, rfl⟩, trivial⟩
    refine (show SXL _ _ [_] _ _ from ?_)
    refine SXL.callF (IsI (waterL u (week) (true))) fn_45 rfl (fun w hI => given_any u fo so fc sc fa sa (week) (true) hl w (hs.inv hI)) ?_; rintro _ _ ⟨qw1, ow1, rfl, rfl⟩
    refine SXL.nil (stepQ.mk _ rfl rfl ?_)
    refine SXA.all [5] (by kernel_rfl) rfl ⟨⟨?_, rfl⟩, trivial⟩
    refine (show SXL _ _ [_] _ _ from ?_)
    refine SXL.callF (IsI (leasts u)) fn_57 rfl (fun w hI => rleasts_any u fo so fc sc fa sa hl w (hs.inv hI)) ?_; rintro _ _ ⟨ql1, ol1, rfl, rfl⟩
    refine SXL.nil (stepQ.mk _ rfl rfl ?_)
    refine SXA.take 6 1 rfl (by kernel_rfl) rfl ?_
    refine SXL.call1 (.bool (decide (LeaP u week true))) fn_58 rfl (fun w hI => rcan_any u fo so fc sc fa sa (waterL u week true) (leasts u) qw1.addr ql1.addr qw1.cap ql1.cap (waterL_len u _ _) (water_sm hv ht hw _) (by rw [leasts_len]; omega) (leasts_sm hv) hl w (hs.inv hI) (slOnes hI ow1 (i := 1) rfl) (slOnes hI ol1 (i := 2) rfl)) ?_
    refine SXL.nil ⟨rfl, rfl, rfl, ?_⟩
    refine SXA.all [10] (by kernel_rfl) rfl ⟨⟨?_, rfl⟩, trivial⟩
    refine (show SXL _ _ [_] _ _ from ?_)
    refine SXL.callF (IsI (waterL u (week) (false))) fn_45 rfl (fun w hI => given_any u fo so fc sc fa sa (week) (false) hl w (hs.inv hI)) ?_; rintro _ _ ⟨qw2, ow2, rfl, rfl⟩
    refine SXL.nil (stepQ.mk _ rfl rfl ?_)
    refine SXA.all [12] (by kernel_rfl) rfl ⟨⟨?_, rfl⟩, trivial⟩
    refine (show SXL _ _ [_] _ _ from ?_)
    refine SXL.callF (IsI (leasts u)) fn_57 rfl (fun w hI => rleasts_any u fo so fc sc fa sa hl w (hs.inv hI)) ?_; rintro _ _ ⟨ql2, ol2, rfl, rfl⟩
    refine SXL.nil (stepQ.mk _ rfl rfl ?_)
    refine SXA.take 13 4 rfl (by kernel_rfl) rfl ?_
    refine SXL.call1 (.bool (decide (LeaP u week false))) fn_58 rfl (fun w hI => rcan_any u fo so fc sc fa sa (waterL u week false) (leasts u) qw2.addr ql2.addr qw2.cap ql2.cap (waterL_len u _ _) (water_sm hv ht hw _) (by rw [leasts_len]; omega) (leasts_sm hv) hl w (hs.inv hI) (slOnes hI ow2 (i := 3) rfl) (slOnes hI ol2 (i := 4) rfl)) ?_
    refine SXL.call1 (.int .u8 (knT 0 (LeaP u week false) (LeaP u week true))) fn_49 rfl (fun w hI => rknown_any _ _ w) ?_
    refine SXL.assign rfl ?_
    refine SXL.assign rfl ?_
    refine SXL.nil ⟨rfl, rfl, rfl, ?_⟩
    refine SXA.done (by kernel_rfl) ?_
    refine SXL.nil ?_
    refine thenQ.normal ?_
    refine SX.ret ?_
    refine retQ.dead [] rfl ?_
    refine retQ.two (ResAt.tmp rfl) (ResAt.tmp rfl) ?_
    rw [he]
set_option maxHeartbeats 1000000 in
theorem rhelps_any (u : Su) (fo so : Option Addr) (fc sc : Nat) (fa : Nat → FA) (sa : Nat → DA) (week : Int) (hl : LitP u) (w : World) (hs : SuAt w u fo so fa sa) :
    CallsR Tryd.prog 34 [.agg ⟨[.slice fo u.founts.length fc, .slice so u.streets.length sc]⟩, .int .i64 week] w (LeR (helL u week) (askT u week True 0)) := by
  refine CallsR.of_SX (n := 59) (rs := [.tmp 4, .tmp 5]) Tryd.func34 rfl rfl rfl rfl ?_
  show SX _ _ _ ⟨[(0, .agg ⟨[.slice fo u.founts.length fc, .slice so u.streets.length sc]⟩), (1, .int .i64 week)], [], []⟩
  refine SX.seq ?_
  refine SX.region ?_
  refine SXL.box rfl rfl ?_; intro b0
  refine SXL.assign rfl ?_
  refine SXL.assign rfl ?_
  refine SXL.nil ?_
  refine thenQ.normal ?_
  refine SX.seq ?_
  refine SX.seq ?_
  refine SX.region ?_
  refine SXL.loadNo 0 sh_25 rfl rfl rfl ?_
  refine SXL.move rfl ?_
  refine SXL.call1 (.int .i64 (askT u (week) True 0)) fn_44 rfl (fun w hI => rasked_any u fo so fc sc fa sa (week) hl w (hs.inv hI)) ?_
  refine SXL.assign rfl ?_
  refine SXL.nil ?_
  refine thenQ.normal ?_
  refine SX.seq ?_
  refine SX.region ?_
  refine SXL.move rfl ?_
  refine SXL.neqI rfl rfl ?_
  refine SXL.nil ?_
  refine thenQ.normal ?_
  refine SX.condP rfl (fun c18 => ?_) (fun c18 => ?_)
  · refine SX.seq ?_
    refine SX.region ?_
    refine SXL.move rfl ?_
    refine SXL.assign rfl ?_
    refine SXL.assign rfl ?_
    refine SXL.nil ?_
    refine thenQ.normal ?_
    refine SX.ret ?_
    refine thenQ.ret ?_
    refine retQ.dead [Sl.nil.ent 3 []] rfl ?_
    refine retQ.two (ResAt.tmp rfl) (ResAt.tmp rfl) ?_
    exact LeR.errs (if_neg c18) rfl
  · refine SX.skip ?_
    refine thenQ.normal ?_
    refine SX.seq ?_
    have he := Classical.not_not.1 c18
    obtain ⟨hv, hw, _, ht⟩ := askT_ok (fun h => absurd trivial h) he
    have hz := hv.1
    unfold SizeP at hz
    refine SX.draw 7 (by kernel_rfl) (by kernel_rfl) {} ?_
    refine SXA.take 0 2 rfl (by kernel_rfl) rfl ?_
    refine SXL.loadNo 0 sh_25 rfl rfl rfl ?_
    refine SXL.move rfl ?_
    refine SXL.nil ⟨rfl, rfl, rfl, ?_⟩
    refine SXA.take 3 1 rfl (by kernel_rfl) rfl ?_
    refine SXL.loadNo 0 sh_25 rfl rfl rfl ?_
    refine SXL.nil ⟨rfl, rfl, rfl, ?_⟩
    refine SXA.all [2] (by kernel_rfl) rfl ⟨⟨?_, rfl⟩, trivial⟩
    refine (show SXL _ _ [_] _ _ from ?_)
    refine SXL.callF (IsI (waterL u (week) (false))) fn_45 rfl (fun w hI => given_any u fo so fc sc fa sa (week) (false) hl w (hs.inv hI)) ?_; rintro _ _ ⟨qw, ow, rfl, rfl⟩
    refine SXL.nil (stepQ.mk _ rfl rfl ?_)
    refine SXA.all [4] (by kernel_rfl) rfl ⟨⟨?_, rfl⟩, trivial⟩
    refine (show SXL _ _ [_] _ _ from ?_)
    refine SXL.callF (IsI (needs u (false))) fn_74 rfl (fun w hI => needed_any u fo so fc sc fa sa (false) hl w (hs.inv hI)) ?_; rintro _ _ ⟨qn, on, rfl, rfl⟩
    refine SXL.nil (stepQ.mk _ rfl rfl ?_)
    refine SXA.take 5 2 rfl (by kernel_rfl) rfl ?_
    refine SXL.assign rfl ?_
    refine SXL.assign rfl ?_
    refine SXL.nil ⟨rfl, rfl, rfl, ?_⟩
    refine SXA.done (by kernel_rfl) ?_
    refine SXL.nil ?_
    refine thenQ.normal ?_
    refine SX.seq ?_
    refine SX.region ?_
    refine SXL.loadNo 0 sh_25 rfl rfl rfl ?_
    refine SXL.move rfl ?_
    refine SXL.move rfl ?_
    refine SXL.call1 (.int .i64 (flow u (waterL u week false) (needs u false))) fn_80 rfl (fun w hI => rflow_any u fo so fc sc fa sa (waterL u week false) (needs u false) qw.addr qn.addr qw.cap qn.cap (waterL_len u _ _) (water_sm hv ht hw _) (by rw [needs_len]; omega) (needs_sm hv _) hz hl w (hs.inv hI) (slOnes hI ow (i := 1) rfl) (slOnes hI on (i := 2) rfl)) ?_
    refine SXL.assign rfl ?_
    refine SXL.nil ?_
    refine thenQ.normal ?_
    refine SX.seq ?_
    refine SX.pad (Sl.nil.ent 3 []) rfl ?_
    refine SX.region ?_
    refine SXL.assign rfl ?_
    refine SXL.nil ?_
    refine thenQ.normal ?_
    refine SX.seq ?_
    refine SX.seq ?_
    refine SX.region ?_
    refine SXL.fieldAddr fp_25_0 rfl ?_
    refine SXL.load1o 0 sh_22 rfl rfl rfl ?_
    refine SXL.len is_22 rfl ?_
    refine SXL.move rfl ?_
    refine SXL.nil ?_
    refine thenQ.normal ?_
    refine SX.block ?_
    refine SX.loopW (α := Nat × Sl × Nat × List Value) [2, 4, 5, 7, 8, 9, 30, 31] rfl (fun ⟨k, q, n, c⟩ => [(32, .int .i64 ((k : Int))), (10, q.val n)]) (fun ⟨k, q, n, c⟩ => [(b0, .cells ⟨[.slice fo u.founts.length fc, .slice so u.streets.length sc]⟩ 25 (0, 0)), qw.ent 3 (ints (waterL u week false)), qn.ent 3 (ints (needs u false)), q.ent 3 c]) (fun ⟨k, q, n, c⟩ => []) (fun ⟨k, q, n, c⟩ => k ≤ u.founts.length ∧ q.Ok n 1 c ∧ c = ints (helTo u (waterL u week false) (needs u false) k)) (fun ⟨k, q, n, c⟩ => u.founts.length - k) (0, Sl.nil, 0, []) ⟨Nat.zero_le _, .none _, rfl⟩ ⟨rfl, rfl, trivial⟩ rfl ?_
    rintro ⟨k, q, n, c⟩ ⟨hk, hq, rfl⟩
    have hn := Ok.n hq
    have hhl := helTo_len u (waterL u week false) (needs u false) k
    refine SX.seq ?_
    refine SX.region ?_
    refine SXL.lss rfl rfl ?_
    refine SXL.nil ?_
    refine thenQ.normal ?_
    refine SX.seq ?_
    refine SX.condP rfl (fun c33 => ?_) (fun c33 => ?_)
    · refine SX.skip ?_
      refine thenQ.normal ?_
      refine SX.seq ?_
      refine SX.block ?_
      refine SX.seq ?_
      obtain ⟨b, o, ha, hm⟩ := hs.fount (i := k) (by omega)
      have hwk := water_in hv ht hw false k
      have hWl0 := waterL_len u week false
      have hSs : Sm ((waterL u week false).set k ((waterL u week false).getD k 0 + 1)) := set_sm (water_in hv ht hw false) (by omega)
      refine SX.region ?_
      refine SXL.move rfl ?_
      refine SXL.indexR el_22 rfl rfl ha (by omega) ?_
      refine SXL.loadN sh_70 rfl (hm _) rfl ?_
      refine SXL.alloc zp_70 ?_; intro b4
      refine SXL.assign rfl ?_
      refine SXL.store 4 sz_70 rfl rfl rfl rfl rfl rfl ?_
      refine SXL.nil ?_
      refine thenQ.normal ?_
      refine SX.seq ?_
      refine SX.region ?_
      refine SXL.buildSlice0 et_33 ?_; intro b5
      refine SXL.move rfl ?_
      refine SXL.appendE (some b5) ap_33 rfl rfl (Src.ofSl (j := 1) ow rfl) (by simp) (ints_isOne _) ⟨by simp only [maxLen]; omega, by omega⟩ ?_; intro r_39 o_39
      refine SXL.assign rfl ?_
      refine SXL.nil ?_
      refine thenQ.normal ?_
      refine SX.seq ?_
      refine SX.region ?_
      refine SXL.move rfl ?_
      refine SXL.move rfl ?_
      refine SXL.indexSl 6 el_33 rfl rfl (by rw [waterL_len]; omega) rfl o_39 ?_; intro bx hbx
      refine SXL.loadSl1 6 (v := .int .i64 ((waterL u week false).getD k 0)) sh_3 rfl hbx rfl o_39 (intsAtX (i := k) (by simp) (by rw [waterL_len]; omega)) ?_
      refine SXL.add rfl rfl (by omega) ?_
      refine SXL.indexSl 6 el_33 rfl rfl (by rw [waterL_len]; omega) rfl o_39 ?_; intro by_ hby; obtain rfl : bx = by_ := Option.some.inj (hbx.symm.trans hby)
      refine SXL.storeI 6 (i := k) sz_3 rfl rfl hbx rfl o_39 (by simp) (by rw [waterL_len]; omega) ?_
      refine SXL.nil ?_
      refine thenQ.normal ?_
      refine SX.seq ?_
      refine SX.region ?_
      refine SXL.loadNo 0 sh_25 rfl rfl rfl ?_
      refine SXL.move rfl ?_
      refine SXL.move rfl ?_
      refine SXL.call1 (.int .i64 (flow u ((waterL u week false).set k ((waterL u week false).getD k 0 + 1)) (needs u false))) fn_80 rfl (fun w hI => rflow_n u fo so fc sc fa sa ((waterL u week false).set k ((waterL u week false).getD k 0 + 1)) (needs u false) r_39.addr qn.addr (waterL u week false).length r_39.cap qn.cap (by simp) (by simp [waterL_len]) hSs (by rw [needs_len]; omega) (needs_sm hv _) hz hl w (hs.inv hI) (slOnes hI (o_39.setI k _) (i := 6) rfl) (slOnes hI on (i := 2) rfl)) ?_
      refine SXL.move rfl ?_
      refine SXL.gtr rfl rfl ?_
      refine SXL.nil ?_
      refine thenQ.normal ?_
      refine SX.condP rfl (fun c51 => ?_) (fun c51 => ?_)
      · refine SX.region ?_
        refine SXL.move rfl ?_
        refine SXL.fieldAddr fp_70_0 rfl ?_
        refine SXL.load1o 4 sh_3 rfl rfl rfl ?_
        refine SXL.buildSlice et_33 zp_3 rfl rfl rfl rfl ?_; intro b7
        refine SXL.append 3 ap_33 rfl rfl hq rfl (.inr ⟨_, _, rfl, Mem.own (i := 7) rfl (takeAt_all _)⟩) rfl rfl ⟨by simp only [maxLen]; omega, by omega⟩ ?_; intro r_56 o_56
        refine SXL.assign rfl ?_
        refine SXL.nil ?_
        refine blockQ.normal ?_
        refine thenQ.normal ?_
        refine SX.region ?_
        refine SXL.add rfl rfl (by omega) ?_
        refine SXL.move rfl ?_
        refine SXL.nil ?_
        refine thenQ.normal ?_
        refine ⟨(k + 1, _, _, _), MeetsW.mkP _ ⟨rfl, rfl, trivial⟩ ⟨rfl, rfl, rfl, rfl, rfl, rfl, rfl, rfl, trivial⟩ rfl, ?_, (show u.founts.length - (k + 1) < u.founts.length - k by omega)⟩
        first
          | exact ⟨by omega, o_56, by rw [helTo, if_pos c51, ints_snoc]; rfl⟩
          | exact ⟨by omega, hq, by rw [helTo, if_neg c51]⟩
      · refine SX.skip ?_
        refine blockQ.normal ?_
        refine thenQ.normal ?_
        refine SX.region ?_
        refine SXL.add rfl rfl (by omega) ?_
        refine SXL.move rfl ?_
        refine SXL.nil ?_
        refine thenQ.normal ?_
        refine ⟨(k + 1, _, _, _), MeetsW.mkP _ ⟨rfl, rfl, trivial⟩ ⟨rfl, rfl, rfl, rfl, rfl, rfl, rfl, rfl, trivial⟩ rfl, ?_, (show u.founts.length - (k + 1) < u.founts.length - k by omega)⟩
        first
          | exact ⟨by omega, o_56, by rw [helTo, if_pos c51, ints_snoc]; rfl⟩
          | exact ⟨by omega, hq, by rw [helTo, if_neg c51]⟩
    · refine SX.exit ?_
      refine thenQ.exit ?_
      refine thenQ.exit ?_
      refine blockQ.exit ?_
      refine thenQ.normal ?_
      refine SX.seq ?_
      refine SX.region ?_
      refine SXL.move rfl ?_
      refine SXL.assign rfl ?_
      refine SXL.assign rfl ?_
      refine SXL.nil ?_
      refine thenQ.normal ?_
      refine SX.ret ?_
      refine retQ.sel [3] rfl rfl ?_
      refine retQ.two (ResAt.tmp rfl) (ResAt.tmp rfl) ?_
      obtain rfl : k = u.founts.length := by omega
      have e1 : helL u week = helTo u (waterL u week false) (needs u false) u.founts.length := if_pos he
      subst hn; rw [e1, he]; exact ⟨q, hq, rfl, rfl⟩
end Go.Proofs.YtolcicaclflagaaDoor

/- How many pints more are enough: counted up. Nothing of Go stands here. -/
namespace Go.T
open Go Go.S Go.X
/-- With so many pints more there is enough just if each set that lacks can draw from there, and none lacks more. -/
def MoFin (u : Su) (week id : Int) : Prop := ∀ n : Nat, CanP u ((waterL u week false).set (fountI u id).toNat ((waterL u week false).getD (fountI u id).toNat 0 + (n : Int))) (needs u false) ↔ (MoOk u (waterL u week false) (needs u false) id ∧ maxL u (waterL u week false) (needs u false) (2 ^ u.streets.length) ≤ n)
theorem more_fin {u : Su} {week id : Int} (hv : SuP u) (ht : TrueS u) (hw : Wi week 0 (Go.T.long u - 1)) (hp : 0 ≤ fountI u id) : MoFin u week id ∧ maxL u (waterL u week false) (needs u false) (2 ^ u.streets.length) ≤ 500 ∧ 0 ≤ maxL u (waterL u week false) (needs u false) (2 ^ u.streets.length) := by
  have hz := hv.1
  unfold SizeP at hz
  obtain ⟨h1, h2⟩ := idxF_lt hp
  have ha : (fountI u id).toNat < u.founts.length := h1
  have hid : (u.founts.getD (fountI u id).toNat default).id = id := h2
  have haw : (fountI u id).toNat < (waterL u week false).length := by rw [waterL_len]; exact ha
  refine ⟨fun n => ?_, maxL_500 (fun k => (water_in hv ht hw false k).1) (needs_in hv false) (by rw [needs_len]; omega) _, maxL_pos _ _ _ _⟩
  by_cases hok : MoOk u (waterL u week false) (needs u false) id
  · have := more_iff (n := (n : Int)) ha haw (by omega) (l := needs u false) (by rw [hid]; exact hok)
    rw [this, needs_len]
    exact ⟨fun h => ⟨hok, h⟩, fun h => h.2⟩
  · constructor
    · intro h
      obtain ⟨b, hb, h3, h4⟩ := moOk_not hok
      exact absurd h (more_none n ha haw hb h3 (by rw [hid]; exact h4))
    · intro h; exact absurd h.1 hok
theorem mo_yes {u : Su} {week id : Int} {k : Nat} (he : askT u week (0 ≤ fountI u id) 93 = 0) (hf : MoFin u week id ∧ maxL u (waterL u week false) (needs u false) (2 ^ u.streets.length) ≤ 500 ∧ 0 ≤ maxL u (waterL u week false) (needs u false) (2 ^ u.streets.length))
    (hc : CanP u ((waterL u week false).set (fountI u id).toNat ((waterL u week false).getD (fountI u id).toNat 0 + (k : Int))) (needs u false))
    (hall : ∀ n : Nat, n < k → ¬CanP u ((waterL u week false).set (fountI u id).toNat ((waterL u week false).getD (fountI u id).toNat 0 + (n : Int))) (needs u false)) :
    Value.tuple ⟨[.int .i64 (k : Int), .int .i64 0]⟩ = .tuple ⟨[.int .i64 (moV u week id), .int .i64 (moE u week id)]⟩ := by
  obtain ⟨h1, h2⟩ := (hf.1 k).1 hc
  have e : moE u week id = 0 := by rw [moE, if_neg (fun h => h he), if_pos h1]
  have e2 : maxL u (waterL u week false) (needs u false) (2 ^ u.streets.length) = (k : Int) := by
    by_cases hlt : maxL u (waterL u week false) (needs u false) (2 ^ u.streets.length) < (k : Int)
    · exact absurd ((hf.1 _).2 ⟨h1, by omega⟩) (hall (maxL u (waterL u week false) (needs u false) (2 ^ u.streets.length)).toNat (by omega))
    · omega
  rw [moV, e, if_pos rfl, e2]
theorem mo_no {u : Su} {week id : Int} (he : askT u week (0 ≤ fountI u id) 93 = 0) (hf : MoFin u week id ∧ maxL u (waterL u week false) (needs u false) (2 ^ u.streets.length) ≤ 500 ∧ 0 ≤ maxL u (waterL u week false) (needs u false) (2 ^ u.streets.length))
    (hall : ∀ n : Nat, n < 501 → ¬CanP u ((waterL u week false).set (fountI u id).toNat ((waterL u week false).getD (fountI u id).toNat 0 + (n : Int))) (needs u false)) :
    Value.tuple ⟨[.int .i64 0, .int .i64 6]⟩ = .tuple ⟨[.int .i64 (moV u week id), .int .i64 (moE u week id)]⟩ := by
  have e : moE u week id = 6 := by
    rw [moE, if_neg (fun h => h he), if_neg]
    intro hok
    exact hall (maxL u (waterL u week false) (needs u false) (2 ^ u.streets.length)).toNat (by omega) ((hf.1 _).2 ⟨hok, by omega⟩)
  rw [moV, e]; rfl
end Go.T

/- The calculus' rules: calls that turn blocks of the caller's own; copy; append of zeros; overlaps. Nothing of the program stands here. -/
namespace Go.X
open Go Go.RowKit

section
variable {C : Cx} {Q : Post} {env : Env} {own : Own} {D : List Deferred} {ops : Array Oper} {rest : List Oper}
variable {d : Nat} {ty : TypeId} {pos : String} {aft : Array Edge} {g : Option (Nat × Bool)} {x y : Operand} {T T' : TypeId}
end
/-- Some cells of a row set anew. -/
def putL (l : List Value) (off : Nat) (vs : List Value) : List Value := l.take off ++ vs ++ l.drop (off + vs.length)
section
variable {C : Cx} {Q : Post} {env : Env} {own : Own} {D : List Deferred} {ops : Array Oper} {rest : List Oper}
variable {d : Nat} {ty : TypeId} {pos : String} {aft : Array Edge} {g : Option (Nat × Bool)} {x y : Operand} {T T' : TypeId}
/-- The blocks in other words. -/
theorem SX.own_eq {c : Code} {own' : Own} (e : own = own') (h : SX C c Q ⟨env, own', D⟩) : SX C c Q ⟨env, own, D⟩ := e ▸ h
/-! ### append of zeros that grows -/
def isI64P (P : Program) (t : TypeId) : Bool := match P.underlying t with | some (.int .i64) => true | _ => false
/-! ### overlaps -/
/-! ### to unsigned integers and back -/
end
end Go.X

/- The walks of the reference of layer 9: proofs, how many pints more. -/
namespace Go.Proofs.YtolcicaclflagaaDoor
open Go.X Go.S Go.T Go.RowKit
theorem rfO_one (u : Su) (W L : List Int) : rfO u W L 1 = [] := by
  have e : ∀ n, idsB u 0 n = [] := by
    intro n
    induction n with
    | zero => rfl
    | succ n ih => simp only [idsB]; rw [if_neg (by simp [hasI]), ih]
  simp only [rfO]; rw [e]; split <;> rfl
theorem set_zero_at {l : List Int} {k : Nat} (h : k < l.length) : l.set k (l.getD k 0 + ((0 : Nat) : Int)) = l := by
  have e : l.getD k 0 + ((0 : Nat) : Int) = l[k] := by simp [List.getD_eq_getElem?_getD, h]
  rw [e]; exact List.set_getElem_self h
theorem mo_err0 {u : Su} {week id e : Int} (h : askT u week (0 ≤ fountI u id) 93 = e) (he : e ≠ 0) : Value.tuple ⟨[.int .i64 0, .int .i64 e]⟩ = .tuple ⟨[.int .i64 (moV u week id), .int .i64 (moE u week id)]⟩ := by
  subst h; exact mo_err he
theorem rids_any (u : Su) (fo so : Option Addr) (fc sc : Nat) (fa : Nat → FA) (sa : Nat → DA) (b : Nat) (hb : b ≤ 10000) (hl : LitP u) (w : World) (hs : SuAt w u fo so fa sa) :
    CallsR Tryd.prog 75 [.agg ⟨[.slice fo u.founts.length fc, .slice so u.streets.length sc]⟩, .int .i64 ((b : Int))] w (IsI (idsB u b u.streets.length)) := by
  have hL0 := hl.1
  have hL1 := hl.2.1
  have hL2 := hl.2.2
  refine CallsR.of_SX (n := 26) (rs := [.tmp 4]) Tryd.func75 rfl rfl rfl rfl ?_
  show SX _ _ _ ⟨[(0, .agg ⟨[.slice fo u.founts.length fc, .slice so u.streets.length sc]⟩), (1, .int .i64 ((b : Int)))], [], []⟩
  refine SX.seq ?_
  refine SX.region ?_
  refine SXL.box rfl rfl ?_; intro b0
  refine SXL.assign rfl ?_
  refine SXL.nil ?_
  refine thenQ.normal ?_
  refine SX.seq ?_
  refine SX.pad (Sl.nil.ent 3 []) rfl ?_
  refine SX.region ?_
  refine SXL.assign rfl ?_
  refine SXL.nil ?_
  refine thenQ.normal ?_
  refine SX.seq ?_
  refine SX.seq ?_
  refine SX.region ?_
  refine SXL.fieldAddr fp_25_1 rfl ?_
  refine SXL.load1o 0 sh_23 rfl rfl rfl ?_
  refine SXL.len is_23 rfl ?_
  refine SXL.move rfl ?_
  refine SXL.nil ?_
  refine thenQ.normal ?_
  refine SX.block ?_
  refine SX.loopW (α := Nat × Sl × Nat × List Value) [1, 4, 9, 10] rfl (fun ⟨k, q, n, c⟩ => [(11, .int .i64 ((k : Int))), (5, q.val n)]) (fun ⟨k, q, n, c⟩ => [(b0, .cells ⟨[.slice fo u.founts.length fc, .slice so u.streets.length sc]⟩ 25 (0, 0)), q.ent 3 c]) (fun ⟨k, q, n, c⟩ => []) (fun ⟨k, q, n, c⟩ => k ≤ u.streets.length ∧ q.Ok n 1 c ∧ c = ints (idsB u b k)) (fun ⟨k, q, n, c⟩ => u.streets.length - k) (0, Sl.nil, 0, []) ⟨Nat.zero_le _, .none _, rfl⟩ ⟨rfl, rfl, trivial⟩ rfl ?_
  rintro ⟨k, q, n, c⟩ ⟨hk, ho, rfl⟩
  have hn := Ok.n ho
  have hil := idsB_len u b k
  refine SX.seq ?_
  refine SX.region ?_
  refine SXL.lss rfl rfl ?_
  refine SXL.nil ?_
  refine thenQ.normal ?_
  refine SX.seq ?_
  refine SX.condP rfl (fun c12 => ?_) (fun c12 => ?_)
  · refine SX.skip ?_
    refine thenQ.normal ?_
    refine SX.seq ?_
    refine SX.block ?_
    refine SX.seq ?_
    obtain ⟨bs, o, ha, hm⟩ := hs.street (i := k) (by omega)
    refine SX.region ?_
    refine SXL.move rfl ?_
    refine SXL.indexR el_23 rfl rfl ha (by omega) ?_
    refine SXL.loadN sh_73 rfl (hm _) rfl ?_
    refine SXL.alloc zp_73 ?_; intro b2
    refine SXL.assign rfl ?_
    refine SXL.store 2 sz_73 rfl rfl rfl rfl rfl rfl ?_
    refine SXL.nil ?_
    refine thenQ.normal ?_
    refine SX.seq ?_
    refine SX.region ?_
    refine SXL.move rfl ?_
    refine SXL.move rfl ?_
    refine SXL.call1 (.bool (decide (hasI b k))) fn_97 rfl (fun w hI => has_any b k (by omega) (by omega) w) ?_
    refine SXL.nil ?_
    refine thenQ.normal ?_
    refine SX.condP rfl (fun c18 => ?_) (fun c18 => ?_)
    · refine SX.region ?_
      refine SXL.move rfl ?_
      refine SXL.fieldAddr fp_73_0 rfl ?_
      refine SXL.load1o 2 sh_3 rfl rfl rfl ?_
      refine SXL.buildSlice et_33 zp_3 rfl rfl rfl rfl ?_; intro b3
      refine SXL.append 1 ap_33 rfl rfl ho rfl (.inr ⟨_, _, rfl, Mem.own (i := 3) rfl (takeAt_all _)⟩) rfl rfl ⟨by simp only [maxLen]; omega, by omega⟩ ?_; intro r_23 o_23
      refine SXL.assign rfl ?_
      refine SXL.nil ?_
      refine blockQ.normal ?_
      refine thenQ.normal ?_
      refine SX.region ?_
      refine SXL.add rfl rfl (by omega) ?_
      refine SXL.move rfl ?_
      refine SXL.nil ?_
      refine thenQ.normal ?_
      refine ⟨(k + 1, _, _, _), MeetsW.mkP _ ⟨rfl, rfl, trivial⟩ ⟨rfl, rfl, rfl, rfl, trivial⟩ rfl, ?_, (show u.streets.length - (k + 1) < u.streets.length - k by omega)⟩
      first
        | exact ⟨by omega, o_23, by rw [idsB, if_pos c18, ints_snoc]; rfl⟩
        | exact ⟨by omega, ho, by rw [idsB, if_neg c18]⟩
    · refine SX.skip ?_
      refine blockQ.normal ?_
      refine thenQ.normal ?_
      refine SX.region ?_
      refine SXL.add rfl rfl (by omega) ?_
      refine SXL.move rfl ?_
      refine SXL.nil ?_
      refine thenQ.normal ?_
      refine ⟨(k + 1, _, _, _), MeetsW.mkP _ ⟨rfl, rfl, trivial⟩ ⟨rfl, rfl, rfl, rfl, trivial⟩ rfl, ?_, (show u.streets.length - (k + 1) < u.streets.length - k by omega)⟩
      first
        | exact ⟨by omega, o_23, by rw [idsB, if_pos c18, ints_snoc]; rfl⟩
        | exact ⟨by omega, ho, by rw [idsB, if_neg c18]⟩
  · refine SX.exit ?_
    refine thenQ.exit ?_
    refine thenQ.exit ?_
    refine blockQ.exit ?_
    refine thenQ.normal ?_
    refine SX.seq ?_
    refine SX.region ?_
    refine SXL.move rfl ?_
    refine SXL.assign rfl ?_
    refine SXL.nil ?_
    refine thenQ.normal ?_
    refine SX.ret ?_
    refine retQ.sel [1] rfl rfl ?_
    refine retQ.one (ResAt.tmp rfl) ?_
    obtain rfl : k = u.streets.length := by omega
    subst hn; exact ⟨q, ho, rfl, rfl⟩
theorem rbefore_any (a b : List Int) (ao bo : Option Addr) (ac bc : Nat) (ha : a.length ≤ 1000) (w : World) (h1 : RowsAt w ao 1 (ones a)) (h2 : RowsAt w bo 1 (ones b)) :
    CallsR Tryd.prog 78 [.slice ao a.length ac, .slice bo b.length bc] w (fun v _ => v = .bool (decide (BefP a b))) := by
  refine CallsR.of_SX (n := 40) (rs := [.tmp 4]) Tryd.func78 rfl rfl rfl rfl ?_
  show SX _ _ _ ⟨[(0, .slice ao a.length ac), (1, .slice bo b.length bc)], [], []⟩
  refine SX.seq ?_
  refine SX.region ?_
  refine SXL.assign rfl ?_
  refine SXL.nil ?_
  refine thenQ.normal ?_
  refine SX.seq ?_
  refine SX.seq ?_
  refine SX.region ?_
  refine SXL.move rfl ?_
  refine SXL.len is_33 rfl ?_
  refine SXL.move rfl ?_
  refine SXL.len is_33 rfl ?_
  refine SXL.neqI rfl rfl ?_
  refine SXL.nil ?_
  refine thenQ.normal ?_
  refine SX.condP rfl (fun c10 => ?_) (fun c10 => ?_)
  · refine SX.seq ?_
    refine SX.region ?_
    refine SXL.move rfl ?_
    refine SXL.len is_33 rfl ?_
    refine SXL.move rfl ?_
    refine SXL.len is_33 rfl ?_
    refine SXL.lss rfl rfl ?_
    refine SXL.assign rfl ?_
    refine SXL.nil ?_
    refine thenQ.normal ?_
    refine SX.ret ?_
    refine thenQ.ret ?_
    refine retQ.one (ResAt.tmp rfl) ?_
    exact congrArg Value.bool (decide_eq_decide.2 (by unfold BefP; rw [if_pos (by omega)]; omega))
  · refine SX.skip ?_
    refine thenQ.normal ?_
    refine SX.seq ?_
    refine SX.seq ?_
    have hel : a.length = b.length := by omega
    refine SX.region ?_
    refine SXL.assign rfl ?_
    refine SXL.nil ?_
    refine thenQ.normal ?_
    refine SX.block ?_
    refine SX.loopG (α := Nat) [0, 1, 4] rfl (fun k => [(5, .int .i64 ((k : Int)))]) (fun k => []) (fun k => k ≤ a.length ∧ lexL a b = lexL (a.drop k) (b.drop k)) (fun k => a.length - k) 0 ⟨Nat.zero_le _, rfl⟩ ⟨rfl, trivial⟩ rfl ?_
    rintro k ⟨hk, he⟩
    refine SX.seq ?_
    refine SX.seq ?_
    refine SX.region ?_
    refine SXL.move rfl ?_
    refine SXL.move rfl ?_
    refine SXL.len is_33 rfl ?_
    refine SXL.lss rfl rfl ?_
    refine SXL.nil ?_
    refine thenQ.normal ?_
    refine SX.condP rfl (fun c19 => ?_) (fun c19 => ?_)
    · refine SX.skip ?_
      refine thenQ.normal ?_
      refine SX.seq ?_
      refine SX.block ?_
      refine SX.seq ?_
      obtain ⟨x1, o1, ha1, hm1⟩ := oneI h1 (i := k) (by omega)
      obtain ⟨x2, o2, hb1, hm2⟩ := oneI h2 (i := k) (by omega)
      have hda := drop_getD (l := a) (k := k) (by omega)
      have hdb := drop_getD (l := b) (k := k) (by omega)
      refine SX.draw 9 (by kernel_rfl) (by kernel_rfl) {} ?_
      refine SXA.take 0 9 rfl (by kernel_rfl) rfl ?_
      refine SXL.move rfl ?_
      refine SXL.move rfl ?_
      refine SXL.indexR el_33 rfl rfl ha1 (by omega) ?_
      refine SXL.load1 sh_3 rfl (hm1 _) ?_
      refine SXL.move rfl ?_
      refine SXL.move rfl ?_
      refine SXL.indexR el_33 rfl rfl hb1 (by omega) ?_
      refine SXL.load1 sh_3 rfl (hm2 _) ?_
      refine SXL.neqI rfl rfl ?_
      refine SXL.nil ⟨rfl, rfl, rfl, ?_⟩
      refine SXA.done (by kernel_rfl) ?_
      refine SXL.nil ?_
      refine thenQ.normal ?_
      refine SX.condP rfl (fun c30 => ?_) (fun c30 => ?_)
      · refine SX.seq ?_
        refine SX.draw 10 (by kernel_rfl) (by kernel_rfl) {} ?_
        refine SXA.take 0 10 rfl (by kernel_rfl) rfl ?_
        refine SXL.move rfl ?_
        refine SXL.move rfl ?_
        refine SXL.indexR el_33 rfl rfl ha1 (by omega) ?_
        refine SXL.load1 sh_3 rfl (hm1 _) ?_
        refine SXL.move rfl ?_
        refine SXL.move rfl ?_
        refine SXL.indexR el_33 rfl rfl hb1 (by omega) ?_
        refine SXL.load1 sh_3 rfl (hm2 _) ?_
        refine SXL.lss rfl rfl ?_
        refine SXL.assign rfl ?_
        refine SXL.nil ⟨rfl, rfl, rfl, ?_⟩
        refine SXA.done (by kernel_rfl) ?_
        refine SXL.nil ?_
        refine thenQ.normal ?_
        refine SX.ret ?_
        refine blockQ.ret ?_
        refine thenQ.ret ?_
        refine thenQ.ret ?_
        refine blockQ.ret ?_
        refine thenQ.ret ?_
        refine retQ.one (ResAt.tmp rfl) ?_
        exact congrArg Value.bool (decide_eq_decide.2 (by unfold BefP; rw [if_neg (fun h => h hel), he, hda, hdb, lexL, if_neg c30, decide_eq_true_iff]))
      · refine SX.skip ?_
        refine blockQ.normal ?_
        refine thenQ.normal ?_
        refine SX.region ?_
        refine SXL.move rfl ?_
        refine SXL.add rfl rfl (by omega) ?_
        refine SXL.assign rfl ?_
        refine SXL.nil ?_
        refine thenQ.normal ?_
        refine ⟨k + 1, Meets.mk _ ⟨rfl, trivial⟩ ⟨rfl, rfl, rfl, trivial⟩ rfl, ⟨by omega, by rw [he, hda, hdb, lexL, if_pos (Decidable.not_not.1 c30)]⟩, (by omega)⟩
    · refine SX.exit ?_
      refine thenQ.exit ?_
      refine thenQ.exit ?_
      refine blockQ.exit ?_
      refine thenQ.normal ?_
      refine SX.seq ?_
      refine SX.region ?_
      refine SXL.assign rfl ?_
      refine SXL.nil ?_
      refine thenQ.normal ?_
      refine SX.ret ?_
      refine retQ.one (ResAt.tmp rfl) ?_
      exact congrArg Value.bool (decide_eq_false (p := BefP a b) (by unfold BefP; rw [if_neg (fun h => h hel), he, dropN a (by omega), dropN b (by omega)]; simp [lexL])).symm
set_option maxHeartbeats 2000000 in
theorem rproof_any (u : Su) (fo so : Option Addr) (fc sc : Nat) (fa : Nat → FA) (sa : Nat → DA) (week : Int) (best : Bool) (hl : LitP u) (w : World) (hs : SuAt w u fo so fa sa) :
    CallsR Tryd.prog 28 [.agg ⟨[.slice fo u.founts.length fc, .slice so u.streets.length sc]⟩, .int .i64 week, .bool best] w (LeR (prL u week best) (prE u week best)) := by
  refine CallsR.of_SX (n := 60) (rs := [.tmp 6, .tmp 7]) Tryd.func28 rfl rfl rfl rfl ?_
  show SX _ _ _ ⟨[(0, .agg ⟨[.slice fo u.founts.length fc, .slice so u.streets.length sc]⟩), (1, .int .i64 week), (2, .bool best)], [], []⟩
  refine SX.seq ?_
  refine SX.region ?_
  refine SXL.box rfl rfl ?_; intro b0
  refine SXL.assign rfl ?_
  refine SXL.assign rfl ?_
  refine SXL.nil ?_
  refine thenQ.normal ?_
  refine SX.seq ?_
  refine SX.seq ?_
  refine SX.region ?_
  refine SXL.loadNo 0 sh_25 rfl rfl rfl ?_
  refine SXL.move rfl ?_
  refine SXL.call1 (.int .i64 (askT u (week) True 0)) fn_44 rfl (fun w hI => rasked_any u fo so fc sc fa sa (week) hl w (hs.inv hI)) ?_
  refine SXL.assign rfl ?_
  refine SXL.nil ?_
  refine thenQ.normal ?_
  refine SX.seq ?_
  refine SX.region ?_
  refine SXL.move rfl ?_
  refine SXL.neqI rfl rfl ?_
  refine SXL.nil ?_
  refine thenQ.normal ?_
  refine SX.condP rfl (fun c18 => ?_) (fun c18 => ?_)
  · refine SX.seq ?_
    refine SX.region ?_
    refine SXL.move rfl ?_
    refine SXL.assign rfl ?_
    refine SXL.assign rfl ?_
    refine SXL.nil ?_
    refine thenQ.normal ?_
    refine SX.ret ?_
    refine thenQ.ret ?_
    refine retQ.dead [Sl.nil.ent 3 []] rfl ?_
    refine retQ.two (ResAt.tmp rfl) (ResAt.tmp rfl) ?_
    exact LeR.errs (by rw [prL, prE, if_pos c18, if_neg c18]) (by rw [prE, if_pos c18])
  · refine SX.skip ?_
    refine thenQ.normal ?_
    refine SX.seq ?_
    have he := Classical.not_not.1 c18
    obtain ⟨hv, hw, _, ht⟩ := askT_ok (fun h => absurd trivial h) he
    have hz := hv.1
    unfold SizeP at hz
    have hNl := needs_len u best
    have hpw : (2 : Nat) ^ (needs u best).length ≤ 32 := Nat.le_trans (Nat.pow_le_pow_right (by omega) (show (needs u best).length ≤ 5 by omega)) (by decide)
    have hp1 : 1 ≤ 2 ^ (needs u best).length := Nat.two_pow_pos _
    refine SX.draw 9 (by kernel_rfl) (by kernel_rfl) {} ?_
    refine SXA.take 0 3 rfl (by kernel_rfl) rfl ?_
    refine SXL.loadNo 0 sh_25 rfl rfl rfl ?_
    refine SXL.move rfl ?_
    refine SXL.move rfl ?_
    refine SXL.nil ⟨rfl, rfl, rfl, ?_⟩
    refine SXA.take 4 2 rfl (by kernel_rfl) rfl ?_
    refine SXL.loadNo 0 sh_25 rfl rfl rfl ?_
    refine SXL.move rfl ?_
    refine SXL.nil ⟨rfl, rfl, rfl, ?_⟩
    refine SXA.all [3] (by kernel_rfl) rfl ⟨⟨?_, rfl⟩, trivial⟩
    refine (show SXL _ _ [_] _ _ from ?_)
    refine SXL.callF (IsI (waterL u (week) (best))) fn_45 rfl (fun w hI => given_any u fo so fc sc fa sa (week) (best) hl w (hs.inv hI)) ?_; rintro _ _ ⟨qw, ow, rfl, rfl⟩
    refine SXL.nil (stepQ.mk _ rfl rfl ?_)
    refine SXA.all [6] (by kernel_rfl) rfl ⟨⟨?_, rfl⟩, trivial⟩
    refine (show SXL _ _ [_] _ _ from ?_)
    refine SXL.callF (IsI (needs u (best))) fn_74 rfl (fun w hI => needed_any u fo so fc sc fa sa (best) hl w (hs.inv hI)) ?_; rintro _ _ ⟨qn, on, rfl, rfl⟩
    refine SXL.nil (stepQ.mk _ rfl rfl ?_)
    refine SXA.take 7 2 rfl (by kernel_rfl) rfl ?_
    refine SXL.assign rfl ?_
    refine SXL.assign rfl ?_
    refine SXL.nil ⟨rfl, rfl, rfl, ?_⟩
    refine SXA.done (by kernel_rfl) ?_
    refine SXL.nil ?_
    refine thenQ.normal ?_
    refine SX.seq ?_
    refine SX.pad (Sl.nil.ent 3 []) rfl ?_
    refine SX.region ?_
    refine SXL.assign rfl ?_
    refine SXL.nil ?_
    refine thenQ.normal ?_
    refine SX.seq ?_
    refine SX.seq ?_
    refine SX.region ?_
    refine SXL.assign rfl ?_
    refine SXL.nil ?_
    refine thenQ.normal ?_
    refine SX.block ?_
    refine SX.loopW (α := Nat × Sl × Nat × List Value) [3, 6, 7, 9, 10] rfl (fun ⟨b, q, n, c⟩ => [(12, .int .i64 ((b : Int))), (11, q.val n)]) (fun ⟨b, q, n, c⟩ => [(b0, .cells ⟨[.slice fo u.founts.length fc, .slice so u.streets.length sc]⟩ 25 (0, 0)), qw.ent 3 (ints (waterL u week best)), qn.ent 3 (ints (needs u best)), q.ent 3 c]) (fun ⟨b, q, n, c⟩ => []) (fun ⟨b, q, n, c⟩ => 1 ≤ b ∧ b ≤ 2 ^ (needs u best).length ∧ q.Ok n 1 c ∧ c = ints (rfO u (waterL u week best) (needs u best) b)) (fun ⟨b, q, n, c⟩ => 2 ^ (needs u best).length - b) (1, Sl.nil, 0, []) ⟨Nat.le_refl _, hp1, .none _, by rw [rfO_one]; rfl⟩ ⟨rfl, rfl, trivial⟩ rfl ?_
    rintro ⟨b, q, n, c⟩ ⟨hb1, hb, ho, rfl⟩
    have hn := Ok.n ho
    subst hn
    have hrl := rfO_len u (waterL u week best) (needs u best) b
    refine SX.seq ?_
    refine SX.seq ?_
    refine SX.region ?_
    refine SXL.move rfl ?_
    refine SXL.move rfl ?_
    refine SXL.len is_33 rfl ?_
    refine SXL.shlN rfl rfl (by omega) ?_
    refine SXL.lss rfl rfl ?_
    refine SXL.nil ?_
    refine thenQ.normal ?_
    refine SX.condP rfl (fun c31 => ?_) (fun c31 => ?_)
    · refine SX.skip ?_
      refine thenQ.normal ?_
      refine SX.seq ?_
      refine SX.block ?_
      refine SX.seq ?_
      refine SX.region ?_
      refine SXL.loadNo 0 sh_25 rfl rfl rfl ?_
      refine SXL.move rfl ?_
      refine SXL.callF (IsI (idsB u b u.streets.length)) fn_75 rfl (fun w hI => rids_any u fo so fc sc fa sa b (by omega) hl w (hs.inv hI)) ?_; rintro _ _ ⟨qi, oi, rfl, rfl⟩
      refine SXL.assign rfl ?_
      refine SXL.nil ?_
      refine thenQ.normal ?_
      refine SX.seq ?_
      refine SX.draw 18 (by kernel_rfl) (by kernel_rfl) {} ?_
      refine SXA.take 0 18 rfl (by kernel_rfl) rfl ?_
      refine SXL.move rfl ?_
      refine SXL.move rfl ?_
      refine SXL.call1 (.int .i64 (sumB b (needs u best))) fn_76 rfl (fun w hI => rsum_any b (needs u best) qn.addr qn.cap (by omega) (by omega) (needs_sm hv _) w (slOnes hI on (i := 2) rfl)) ?_
      refine SXL.loadNo 0 sh_25 rfl rfl rfl ?_
      refine SXL.move rfl ?_
      refine SXL.move rfl ?_
      refine SXL.call1 (.int .i64 (thr u b (waterL u week best))) fn_77 rfl (fun w hI => rthere_any u fo so fc sc fa sa b (waterL u week best) qw.addr qw.cap (by omega) (waterL_len u _ _) (water_sm hv ht hw _) hl w (hs.inv hI) (slOnes hI ow (i := 1) rfl)) ?_
      refine SXL.gtr rfl rfl ?_
      refine SXL.move rfl ?_
      apply SXL.andG 8
      case hl => exact rfl
      case hd => exact rfl
      case hg => exact rfl
      case ht =>
        intro c54
        refine SXL.move rfl ?_
        refine SXL.len is_33 rfl ?_
        refine SXL.eqlI rfl rfl ?_
        refine SXL.move rfl ?_
        apply SXL.orG 3
        case hl => exact rfl
        case hd => exact rfl
        case hg => exact rfl
        case ht =>
          intro g4
          refine SXL.pass rfl rfl rfl ?_
          refine SXL.pass rfl rfl rfl ?_
          refine SXL.pass rfl rfl rfl ?_
          exact SXL.nil (segQ.mk (.skip rfl (.skip rfl (.skip rfl (.skip rfl (EnvSub.refl _))))) rfl rfl rfl)
        case hf =>
          intro g4
          refine SXL.move rfl ?_
          refine SXL.move rfl ?_
          refine SXL.call1 (.bool (decide (BefP (idsB u b u.streets.length) (rfO u (waterL u week best) (needs u best) b)))) fn_78 rfl (fun w hI => rbefore_any (idsB u b u.streets.length) (rfO u (waterL u week best) (needs u best) b) qi.addr q.addr qi.cap q.cap (by have := idsB_len u b u.streets.length; omega) w (slOnes hI oi (i := 4) rfl) (slOnes hI ho (i := 3) rfl)) ?_
          exact SXL.nil (segQ.mk (.skip rfl (.skip rfl (.skip rfl (.skip rfl (EnvSub.refl _))))) rfl rfl ⟨rfl, rfl⟩)
        exact SXL.nil (segQ.mk (.skip rfl (.skip rfl (.skip rfl (.skip rfl (.skip rfl (EnvSub.refl _)))))) rfl rfl ⟨rfl, rfl⟩)
      case hf =>
        intro c54
        refine SXL.pass rfl rfl rfl ?_
        refine SXL.pass rfl rfl rfl ?_
        refine SXL.pass rfl rfl rfl ?_
        refine SXL.pass rfl rfl rfl ?_
        refine SXL.pass rfl rfl rfl ?_
        refine SXL.pass rfl rfl rfl ?_
        refine SXL.pass rfl rfl rfl ?_
        refine SXL.pass rfl rfl rfl ?_
        exact SXL.nil (segQ.mk (.skip rfl (.skip rfl (.skip rfl (.skip rfl (.skip rfl (.skip rfl (.skip rfl (.skip rfl (.skip rfl (EnvSub.refl _)))))))))) rfl rfl rfl)
      refine SXL.nil ⟨rfl, rfl, rfl, ?_⟩
      refine SXA.done (by kernel_rfl) ?_
      refine SXL.nil ?_
      refine thenQ.normal ?_
      refine SX.condP rfl (fun c54 => ?_) (fun c54 => ?_)
      · refine SX.region ?_
        refine SXL.move rfl ?_
        refine SXL.assign rfl ?_
        refine SXL.nil ?_
        refine blockQ.normal ?_
        refine thenQ.normal ?_
        refine SX.region ?_
        refine SXL.move rfl ?_
        refine SXL.add rfl rfl (by omega) ?_
        refine SXL.assign rfl ?_
        refine SXL.nil ?_
        refine thenQ.normal ?_
        refine ⟨(b + 1, qi, _, _), MeetsW.mkS [0, 1, 2, 4] ⟨rfl, rfl, trivial⟩ ⟨rfl, rfl, rfl, rfl, rfl, trivial⟩ rfl, ?_, (show 2 ^ (needs u best).length - (b + 1) < 2 ^ (needs u best).length - b by omega)⟩
        have hle : (LackP u (waterL u week best) (needs u best) b ∧ ((rfO u (waterL u week best) (needs u best) b) = [] ∨ BefP (idsB u b u.streets.length) (rfO u (waterL u week best) (needs u best) b))) ↔ (thr u b (waterL u week best) < sumB b (needs u best) ∧ (((rfO u (waterL u week best) (needs u best) b).length : Int) = 0 ∨ BefP (idsB u b u.streets.length) (rfO u (waterL u week best) (needs u best) b))) := by
          unfold LackP; exact and_congr Iff.rfl (or_congr ⟨fun h => by rw [h]; rfl, fun h => List.eq_nil_of_length_eq_zero (by omega)⟩ Iff.rfl)
        first
          | exact ⟨by omega, by omega, oi, by rw [rfO, if_pos (hle.2 c54)]⟩
          | exact ⟨by omega, by omega, ho, by rw [rfO, if_neg (fun h => c54 (hle.1 h))]⟩
      · refine SX.skip ?_
        refine blockQ.normal ?_
        refine thenQ.normal ?_
        refine SX.region ?_
        refine SXL.move rfl ?_
        refine SXL.add rfl rfl (by omega) ?_
        refine SXL.assign rfl ?_
        refine SXL.nil ?_
        refine thenQ.normal ?_
        refine ⟨(b + 1, q, _, _), MeetsW.mkS [0, 1, 2, 3] ⟨rfl, rfl, trivial⟩ ⟨rfl, rfl, rfl, rfl, rfl, trivial⟩ rfl, ?_, (show 2 ^ (needs u best).length - (b + 1) < 2 ^ (needs u best).length - b by omega)⟩
        have hle : (LackP u (waterL u week best) (needs u best) b ∧ ((rfO u (waterL u week best) (needs u best) b) = [] ∨ BefP (idsB u b u.streets.length) (rfO u (waterL u week best) (needs u best) b))) ↔ (thr u b (waterL u week best) < sumB b (needs u best) ∧ (((rfO u (waterL u week best) (needs u best) b).length : Int) = 0 ∨ BefP (idsB u b u.streets.length) (rfO u (waterL u week best) (needs u best) b))) := by
          unfold LackP; exact and_congr Iff.rfl (or_congr ⟨fun h => by rw [h]; rfl, fun h => List.eq_nil_of_length_eq_zero (by omega)⟩ Iff.rfl)
        first
          | exact ⟨by omega, by omega, oi, by rw [rfO, if_pos (hle.2 c54)]⟩
          | exact ⟨by omega, by omega, ho, by rw [rfO, if_neg (fun h => c54 (hle.1 h))]⟩
    · refine SX.exit ?_
      refine thenQ.exit ?_
      refine thenQ.exit ?_
      refine blockQ.exit ?_
      refine thenQ.normal ?_
      refine SX.seq ?_
      refine SX.seq ?_
      have hbe : b = 2 ^ (needs u best).length := by omega
      have hro : rfO u (waterL u week best) (needs u best) b = prO u week best := by rw [hbe, hNl]; rfl
      refine SX.region ?_
      refine SXL.move rfl ?_
      refine SXL.len is_33 rfl ?_
      refine SXL.eqlI rfl rfl ?_
      refine SXL.nil ?_
      refine thenQ.normal ?_
      refine SX.condP rfl (fun c58 => ?_) (fun c58 => ?_)
      · refine SX.seq ?_
        refine SX.region ?_
        refine SXL.assign rfl ?_
        refine SXL.assign rfl ?_
        refine SXL.nil ?_
        refine thenQ.normal ?_
        refine SX.ret ?_
        refine thenQ.ret ?_
        refine retQ.dead [Sl.nil.ent 3 []] rfl ?_
        refine retQ.two (ResAt.tmp rfl) (ResAt.tmp rfl) ?_
        have h1 : prO u week best = [] := by rw [← hro]; exact List.eq_nil_of_length_eq_zero (by omega)
        have h2 : prE u week best = 6 := by rw [prE, if_neg c18, if_pos h1]
        exact LeR.errs (by rw [prL, h2]; rfl) h2.symm
      · refine SX.skip ?_
        refine thenQ.normal ?_
        refine SX.seq ?_
        refine SX.region ?_
        refine SXL.move rfl ?_
        refine SXL.assign rfl ?_
        refine SXL.assign rfl ?_
        refine SXL.nil ?_
        refine thenQ.normal ?_
        refine SX.ret ?_
        refine retQ.sel [3] rfl rfl ?_
        refine retQ.two (ResAt.tmp rfl) (ResAt.tmp rfl) ?_
        have h1 : prO u week best ≠ [] := fun h => c58 (by rw [hro, h]; rfl)
        have h2 : prE u week best = 0 := by rw [prE, if_neg c18, if_neg h1]
        have h3 : prL u week best = rfO u (waterL u week best) (needs u best) b := by rw [prL, if_pos h2, hro]
        rw [h3, h2]; exact ⟨q, ho, rfl, rfl⟩
theorem rcan_n (u : Su) (fo so : Option Addr) (fc sc : Nat) (fa : Nat → FA) (sa : Nat → DA) (W L : List Int) (wo lo : Option Addr) (wn wc lc : Nat) (hwn : W.length = wn) (hW : W.length = u.founts.length) (hWs : Sm W) (hLn : L.length ≤ 5) (hLs : Sm L) (hl : LitP u) (w : World) (hs : SuAt w u fo so fa sa) (hwo : RowsAt w wo 1 (ones W)) (hlo : RowsAt w lo 1 (ones L)) :
    CallsR Tryd.prog 58 [.agg ⟨[.slice fo u.founts.length fc, .slice so u.streets.length sc]⟩, .slice wo wn wc, .slice lo L.length lc] w (fun v _ => v = .bool (decide (CanP u W L))) := by
  subst hwn; exact rcan_any u fo so fc sc fa sa W L wo lo wc lc hW hWs hLn hLs hl w hs hwo hlo
set_option maxHeartbeats 2000000 in
theorem rmore_any (u : Su) (fo so : Option Addr) (fc sc : Nat) (fa : Nat → FA) (sa : Nat → DA) (week id : Int) (hl : LitP u) (w : World) (hs : SuAt w u fo so fa sa) :
    CallsR Tryd.prog 36 [.agg ⟨[.slice fo u.founts.length fc, .slice so u.streets.length sc]⟩, .int .i64 week, .int .i64 id] w (fun v _ => v = .tuple ⟨[.int .i64 (moV u week id), .int .i64 (moE u week id)]⟩) := by
  refine CallsR.of_SX (n := 49) (rs := [.tmp 6, .tmp 7]) Tryd.func36 rfl rfl rfl rfl ?_
  show SX _ _ _ ⟨[(0, .agg ⟨[.slice fo u.founts.length fc, .slice so u.streets.length sc]⟩), (1, .int .i64 week), (2, .int .i64 id)], [], []⟩
  refine SX.seq ?_
  refine SX.region ?_
  refine SXL.box rfl rfl ?_; intro b0
  refine SXL.assign rfl ?_
  refine SXL.assign rfl ?_
  refine SXL.nil ?_
  refine thenQ.normal ?_
  refine SX.seq ?_
  refine SX.seq ?_
  refine SX.region ?_
  refine SXL.loadNo 0 sh_25 rfl rfl rfl ?_
  refine SXL.call1 (.bool (decide (SuP u))) fn_40 rfl (fun w hI => supply_any u fo so fc sc fa sa hl w (hs.inv hI)) ?_
  refine SXL.not rfl ?_
  refine SXL.nil ?_
  refine thenQ.normal ?_
  refine SX.condP rfl (fun c14 => ?_) (fun c14 => ?_)
  · refine SX.seq ?_
    refine SX.region ?_
    refine SXL.assign rfl ?_
    refine SXL.assign rfl ?_
    refine SXL.nil ?_
    refine thenQ.normal ?_
    refine SX.ret ?_
    refine thenQ.ret ?_
    refine retQ.dead [] rfl ?_
    refine retQ.two (ResAt.tmp rfl) (ResAt.tmp rfl) ?_
    exact mo_err0 (by rw [askT, if_pos c14]) (by decide)
  · refine SX.skip ?_
    refine thenQ.normal ?_
    refine SX.seq ?_
    refine SX.seq ?_
    have hv := Decidable.not_not.1 c14
    have hlo := hv.long
    refine SX.region ?_
    refine SXL.move rfl ?_
    refine SXL.loadNo 0 sh_25 rfl rfl rfl ?_
    refine SXL.call1 (.int .i64 (long u)) fn_41 rfl (fun w hI => rlong_any u fo so fc sc fa sa hl w (hs.inv hI)) ?_
    refine SXL.sub rfl rfl (by omega) ?_
    refine SXL.call1 (.bool (decide (Wi (week) (0) (long u - 1)))) fn_62 rfl (fun w hI => within9_any _ _ _ _) ?_
    refine SXL.not rfl ?_
    refine SXL.nil ?_
    refine thenQ.normal ?_
    refine SX.condP rfl (fun c20 => ?_) (fun c20 => ?_)
    · refine SX.seq ?_
      refine SX.region ?_
      refine SXL.assign rfl ?_
      refine SXL.assign rfl ?_
      refine SXL.nil ?_
      refine thenQ.normal ?_
      refine SX.ret ?_
      refine thenQ.ret ?_
      refine retQ.dead [] rfl ?_
      refine retQ.two (ResAt.tmp rfl) (ResAt.tmp rfl) ?_
      exact mo_err0 (by rw [askT, if_neg (Classical.not_not.2 hv), if_pos c20]) (by decide)
    · refine SX.skip ?_
      refine thenQ.normal ?_
      refine SX.seq ?_
      have hw := Decidable.not_not.1 c20
      refine SX.region ?_
      refine SXL.loadNo 0 sh_25 rfl rfl rfl ?_
      refine SXL.move rfl ?_
      refine SXL.call1 (.int .i64 (fountI u (id))) fn_65 rfl (fun w hI => rfount_any u fo so fc sc fa sa (id) hl w (hs.inv hI)) ?_
      refine SXL.assign rfl ?_
      refine SXL.nil ?_
      refine thenQ.normal ?_
      refine SX.seq ?_
      refine SX.seq ?_
      refine SX.region ?_
      refine SXL.move rfl ?_
      refine SXL.lss rfl rfl ?_
      refine SXL.nil ?_
      refine thenQ.normal ?_
      refine SX.condP rfl (fun c25 => ?_) (fun c25 => ?_)
      · refine SX.seq ?_
        refine SX.region ?_
        refine SXL.assign rfl ?_
        refine SXL.assign rfl ?_
        refine SXL.nil ?_
        refine thenQ.normal ?_
        refine SX.ret ?_
        refine thenQ.ret ?_
        refine retQ.dead [] rfl ?_
        refine retQ.two (ResAt.tmp rfl) (ResAt.tmp rfl) ?_
        exact mo_err0 (by rw [askT, if_neg (Classical.not_not.2 hv), if_neg (Classical.not_not.2 hw), if_pos (by omega)]) (by decide)
      · refine SX.skip ?_
        refine thenQ.normal ?_
        refine SX.seq ?_
        refine SX.seq ?_
        have hp : 0 ≤ fountI u id := by omega
        refine SX.region ?_
        refine SXL.loadNo 0 sh_25 rfl rfl rfl ?_
        refine SXL.call1 (.bool (decide (TrueS u))) fn_64 rfl (fun w hI => rtrue_any u fo so fc sc fa sa (hv) hl w (hs.inv hI)) ?_
        refine SXL.not rfl ?_
        refine SXL.nil ?_
        refine thenQ.normal ?_
        refine SX.condP rfl (fun c28 => ?_) (fun c28 => ?_)
        · refine SX.seq ?_
          refine SX.region ?_
          refine SXL.assign rfl ?_
          refine SXL.assign rfl ?_
          refine SXL.nil ?_
          refine thenQ.normal ?_
          refine SX.ret ?_
          refine thenQ.ret ?_
          refine retQ.dead [] rfl ?_
          refine retQ.two (ResAt.tmp rfl) (ResAt.tmp rfl) ?_
          exact mo_err0 (by rw [askT, if_neg (Classical.not_not.2 hv), if_neg (Classical.not_not.2 hw), if_neg (Classical.not_not.2 hp), if_neg c28]) (by decide)
        · refine SX.skip ?_
          refine thenQ.normal ?_
          refine SX.seq ?_
          have ht := Decidable.not_not.1 c28
          have hz := hv.1
          unfold SizeP at hz
          have hat : (fountI u id).toNat < u.founts.length := (idxF_lt hp).1
          have hWa := water_in hv ht hw false (fountI u id).toNat
          have hSs : ∀ n : Nat, n ≤ 501 → Sm ((waterL u week false).set (fountI u id).toNat ((waterL u week false).getD (fountI u id).toNat 0 + (n : Int))) := fun n hn => set_sm (water_in hv ht hw false) (by omega)
          have he : askT u week (0 ≤ fountI u id) 93 = 0 := by rw [askT, if_neg (Classical.not_not.2 hv), if_neg (Classical.not_not.2 hw), if_neg (Classical.not_not.2 hp), if_pos ht]
          have hmo := more_fin (id := id) hv ht hw hp
          refine SX.draw 7 (by kernel_rfl) (by kernel_rfl) {} ?_
          refine SXA.take 0 2 rfl (by kernel_rfl) rfl ?_
          refine SXL.loadNo 0 sh_25 rfl rfl rfl ?_
          refine SXL.move rfl ?_
          refine SXL.nil ⟨rfl, rfl, rfl, ?_⟩
          refine SXA.take 3 1 rfl (by kernel_rfl) rfl ?_
          refine SXL.loadNo 0 sh_25 rfl rfl rfl ?_
          refine SXL.nil ⟨rfl, rfl, rfl, ?_⟩
          refine SXA.all [2] (by kernel_rfl) rfl ⟨⟨?_, rfl⟩, trivial⟩
          refine (show SXL _ _ [_] _ _ from ?_)
          refine SXL.callF (IsI (waterL u (week) (false))) fn_45 rfl (fun w hI => given_any u fo so fc sc fa sa (week) (false) hl w (hs.inv hI)) ?_; rintro _ _ ⟨qw, ow, rfl, rfl⟩
          refine SXL.nil (stepQ.mk _ rfl rfl ?_)
          refine SXA.all [4] (by kernel_rfl) rfl ⟨⟨?_, rfl⟩, trivial⟩
          refine (show SXL _ _ [_] _ _ from ?_)
          refine SXL.callF (IsI (needs u (false))) fn_74 rfl (fun w hI => needed_any u fo so fc sc fa sa (false) hl w (hs.inv hI)) ?_; rintro _ _ ⟨qn, on, rfl, rfl⟩
          refine SXL.nil (stepQ.mk _ rfl rfl ?_)
          refine SXA.take 5 2 rfl (by kernel_rfl) rfl ?_
          refine SXL.assign rfl ?_
          refine SXL.assign rfl ?_
          refine SXL.nil ⟨rfl, rfl, rfl, ?_⟩
          refine SXA.done (by kernel_rfl) ?_
          refine SXL.nil ?_
          refine thenQ.normal ?_
          refine SX.seq ?_
          refine SX.seq ?_
          refine SX.own_eq (own' := [(b0, .cells ⟨[.slice fo u.founts.length fc, .slice so u.streets.length sc]⟩ 25 (0, 0)), qw.ent 3 (ints ((waterL u week false).set (fountI u id).toNat ((waterL u week false).getD (fountI u id).toNat 0 + ((0 : Nat) : Int)))), qn.ent 3 (ints (needs u false))]) (by rw [set_zero_at (show (fountI u id).toNat < (waterL u week false).length by rw [waterL_len]; omega)]; rfl) ?_
          refine SX.region ?_
          refine SXL.assign rfl ?_
          refine SXL.nil ?_
          refine thenQ.normal ?_
          refine SX.block ?_
          refine SX.loopW (α := Nat) [3, 6, 7, 8, 9, 10] rfl (fun k => [(11, .int .i64 ((k : Int)))]) (fun k => [(b0, .cells ⟨[.slice fo u.founts.length fc, .slice so u.streets.length sc]⟩ 25 (0, 0)), qw.ent 3 (ints ((waterL u week false).set (fountI u id).toNat ((waterL u week false).getD (fountI u id).toNat 0 + (k : Int)))), qn.ent 3 (ints (needs u false))]) (fun k => []) (fun k => k ≤ 501 ∧ ∀ n, n < k → ¬CanP u ((waterL u week false).set (fountI u id).toNat ((waterL u week false).getD (fountI u id).toNat 0 + (n : Int))) (needs u false)) (fun k => 501 - k) 0 ⟨Nat.zero_le _, fun _ h => absurd h (Nat.not_lt_zero _)⟩ ⟨rfl, trivial⟩ rfl ?_
          rintro k ⟨hk, hall⟩
          refine SX.seq ?_
          refine SX.seq ?_
          refine SX.region ?_
          refine SXL.move rfl ?_
          refine SXL.leq rfl rfl ?_
          refine SXL.nil ?_
          refine thenQ.normal ?_
          refine SX.condP rfl (fun c35 => ?_) (fun c35 => ?_)
          · refine SX.skip ?_
            refine thenQ.normal ?_
            refine SX.seq ?_
            refine SX.block ?_
            refine SX.seq ?_
            refine SX.seq ?_
            refine SX.region ?_
            refine SXL.loadNo 0 sh_25 rfl rfl rfl ?_
            refine SXL.move rfl ?_
            refine SXL.move rfl ?_
            refine SXL.call1 (.bool (decide (CanP u ((waterL u week false).set (fountI u id).toNat ((waterL u week false).getD (fountI u id).toNat 0 + (k : Int))) (needs u false)))) fn_58 rfl (fun w hI => rcan_n u fo so fc sc fa sa ((waterL u week false).set (fountI u id).toNat ((waterL u week false).getD (fountI u id).toNat 0 + (k : Int))) (needs u false) qw.addr qn.addr (waterL u week false).length qw.cap qn.cap (by simp) (by simp [waterL_len]) (hSs k (by omega)) (by rw [needs_len]; omega) (needs_sm hv _) hl w (hs.inv hI) (slOnes hI (ow.setI _ _) (i := 1) rfl) (slOnes hI on (i := 2) rfl)) ?_
            refine SXL.nil ?_
            refine thenQ.normal ?_
            refine SX.condP rfl (fun c41 => ?_) (fun c41 => ?_)
            · refine SX.seq ?_
              refine SX.region ?_
              refine SXL.move rfl ?_
              refine SXL.assign rfl ?_
              refine SXL.assign rfl ?_
              refine SXL.nil ?_
              refine thenQ.normal ?_
              refine SX.ret ?_
              refine thenQ.ret ?_
              refine blockQ.ret ?_
              refine thenQ.ret ?_
              refine thenQ.ret ?_
              refine blockQ.ret ?_
              refine thenQ.ret ?_
              refine retQ.dead [] rfl ?_
              refine retQ.two (ResAt.tmp rfl) (ResAt.tmp rfl) ?_
              exact mo_yes he hmo c41 hall
            · refine SX.skip ?_
              refine thenQ.normal ?_
              refine SX.region ?_
              refine SXL.move rfl ?_
              refine SXL.move rfl ?_
              refine SXL.indexSl 1 el_33 rfl rfl (by rw [waterL_len]; omega) rfl (ow.setI _ _) ?_; intro bx hbx
              refine SXL.loadSl1 1 (v := .int .i64 ((waterL u week false).getD (fountI u id).toNat 0 + (k : Int))) sh_3 rfl hbx rfl (ow.setI _ _) ((intsAtX (i := (fountI u id).toNat) (by simp) (by simp [waterL_len]; omega)).trans (congrArg (fun z => some (Value.int .i64 z)) (getD_set_self _ (by rw [waterL_len]; omega)))) ?_
              refine SXL.add rfl rfl (by omega) ?_
              refine SXL.indexSl 1 el_33 rfl rfl (by rw [waterL_len]; omega) rfl (ow.setI _ _) ?_; intro by_ hby; obtain rfl : bx = by_ := Option.some.inj (hbx.symm.trans hby)
              refine SXL.storeI 1 (i := (fountI u id).toNat) sz_3 rfl rfl hbx rfl (ow.setI _ _) (by simp) (by simp [waterL_len]; omega) ?_; rw [List.set_set, show ((waterL u week false).getD (fountI u id).toNat 0 + (k : Int) + 1) = (waterL u week false).getD (fountI u id).toNat 0 + ((k + 1 : Nat) : Int) by omega]
              refine SXL.nil ?_
              refine blockQ.normal ?_
              refine thenQ.normal ?_
              refine SX.region ?_
              refine SXL.move rfl ?_
              refine SXL.add rfl rfl (by omega) ?_
              refine SXL.assign rfl ?_
              refine SXL.nil ?_
              refine thenQ.normal ?_
              refine ⟨k + 1, MeetsW.mkP _ ⟨rfl, trivial⟩ ⟨rfl, rfl, rfl, rfl, rfl, rfl, trivial⟩ rfl, ?_, (by omega)⟩
              refine ⟨by omega, fun n hn => ?_⟩
              by_cases e : n = k
              · subst e; exact c41
              · exact hall n (by omega)
          · refine SX.exit ?_
            refine thenQ.exit ?_
            refine thenQ.exit ?_
            refine blockQ.exit ?_
            refine thenQ.normal ?_
            refine SX.seq ?_
            refine SX.region ?_
            refine SXL.assign rfl ?_
            refine SXL.assign rfl ?_
            refine SXL.nil ?_
            refine thenQ.normal ?_
            refine SX.ret ?_
            refine retQ.dead [] rfl ?_
            refine retQ.two (ResAt.tmp rfl) (ResAt.tmp rfl) ?_
            exact mo_no he hmo (fun n hn => hall n (by omega))
end Go.Proofs.YtolcicaclflagaaDoor
