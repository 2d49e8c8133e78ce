/- Texts of the proof, merged: R2, R3, R4, V1, V2, V4, T12, V5, V6, R5, V3. -/
import Derived.Test.YtolcicaclflagaaDoorMTownShares4
import GoSem.Claim
/- The walks of functions. -/
namespace Go.Proofs.YtolcicaclflagaaDoor
open Go.X Go.S
theorem linesTo_yes {s : Sp} {L : List Int} (rain : Int) {i : Nat} (h : i < s.book.length) (hc : Wi rain s.book[i].r0 s.book[i].r1) :
    linesTo s L rain (i + 1) = ((linesTo s L rain i).set s.book[i].wk.toNat (max (G (linesTo s L rain i) s.book[i].wk.toNat) s.book[i].g0)).set (10 + s.book[i].wk.toNat) (min (G (linesTo s L rain i) (10 + s.book[i].wk.toNat)) s.book[i].g1) := by
  simp only [linesTo, List.getElem?_eq_getElem h, lineStep, if_pos hc]
theorem linesTo_no {s : Sp} {L : List Int} (rain : Int) {i : Nat} (h : i < s.book.length) (hc : ¬Wi rain s.book[i].r0 s.book[i].r1) : linesTo s L rain (i + 1) = linesTo s L rain i := by
  simp only [linesTo, List.getElem?_eq_getElem h, lineStep, if_neg hc]
theorem okTo_zero (s : Sp) (w : Nat) (n : Int) : OkTo s w n 0 := fun _ hi => absurd hi (Nat.not_lt_zero _)
theorem okTo_succ {s : Sp} {w : Nat} {n : Int} {i : Nat} (hlt : i < s.reads.length) : (OkTo s w n i ∧ (s.reads[i].wk ≠ w ∨ Right s s.reads[i] n)) ↔ OkTo s w n (i + 1) := by
  constructor
  · rintro ⟨h1, h2⟩ k hk h
    by_cases e : k = i
    · subst e; exact h2
    · exact h1 k (by omega) h
  · intro h
    exact ⟨fun k hk h' => h k (by omega) h', h i (by omega) hlt⟩
theorem okTo_all {s : Sp} {w : Nat} {n : Int} (h : OkTo s w n s.reads.length) : OkP s w n := fun i hi => h i hi hi
theorem okTo_not {s : Sp} {w : Nat} {n : Int} (h : ¬OkTo s w n s.reads.length) : ¬OkP s w n := fun g => h fun i _ hi => g i hi
theorem base_any (s : Sp) (bo ro : Option Addr) (bc rc : Nat) (hv : SpP s) (w : World) (hs : SpAt w s bo ro) :
    CallsR Tryd.prog 111 [.agg ⟨[.int .i64 s.weeks, .int .i64 s.most, .int .i64 s.fall, .int .i64 s.a0, .int .i64 s.a1, .int .i64 s.w0, .int .i64 s.w1, (.slice bo s.book.length bc), (.slice ro s.reads.length rc)]⟩] w (fun v _ => v = .agg ⟨ints (baseL s)⟩) := by
  have hH := hv.1
  unfold HeadP at hH
  refine CallsR.of_SX (n := 66) (rs := [.cell 2 155]) Tryd.func111 rfl rfl rfl rfl ?_
  show SX _ _ _ ⟨[(0, .agg ⟨[.int .i64 s.weeks, .int .i64 s.most, .int .i64 s.fall, .int .i64 s.a0, .int .i64 s.a1, .int .i64 s.w0, .int .i64 s.w1, (.slice bo s.book.length bc), (.slice ro s.reads.length rc)]⟩)], [], []⟩
  refine SX.seq ?_
  refine SX.region ?_
  refine SXL.box rfl rfl ?_; intro b0
  refine SXL.alloc zp_155 ?_; intro b1
  refine SXL.nil ?_
  refine thenQ.normal ?_
  refine SX.seq ?_
  refine SX.region ?_
  refine SXL.alloc zp_155 ?_; intro b2
  refine SXL.nil ?_
  refine thenQ.normal ?_
  refine SX.seq ?_
  refine SX.seq ?_
  refine SX.region ?_
  refine SXL.assign rfl ?_
  refine SXL.nil ?_
  refine thenQ.normal ?_
  refine SX.block ?_
  refine SX.loopG (α := Nat) [1, 2, 3] rfl (fun k => [(4, .int .i64 (k : Int))]) (fun k => [(2, (b2, .cells ⟨ints (baseTo s k)⟩ 155 (0, 0)))]) (fun k => k ≤ s.weeks.toNat) (fun k => s.weeks.toNat - k) 0 (Nat.zero_le _) ⟨rfl, trivial⟩ rfl ?_
  rintro k hk
  have hB := Bd.base (s := s) hH.2.1 k (by omega)
  refine SX.seq ?_
  refine SX.seq ?_
  refine SX.region ?_
  refine SXL.move rfl ?_
  refine SXL.fieldAddr fp_68_0 rfl ?_
  refine SXL.load1o 0 sh_3 rfl rfl rfl ?_
  refine SXL.lss rfl rfl ?_
  refine SXL.nil ?_
  refine thenQ.normal ?_
  refine SX.condP rfl (fun c12 => ?_) (fun c12 => ?_)
  · refine SX.skip ?_
    refine thenQ.normal ?_
    refine SX.seq ?_
    refine SX.block ?_
    refine SX.seq ?_
    refine SX.region ?_
    refine SXL.move rfl ?_
    refine SXL.move rfl ?_
    refine SXL.fieldAddr fp_68_1 rfl ?_
    refine SXL.load1o 0 sh_3 rfl rfl rfl ?_
    refine SXL.add rfl rfl (by omega) ?_
    refine SXL.fieldAddr fp_155_0 rfl ?_
    refine SXL.indexA el_153 rfl rfl (by omega) ?_
    refine SXL.store 2 sz_3 rfl rfl rfl rfl rfl (ints_put (i := k) (by omega) (by simp only [hB.len]; omega)) ?_
    refine SXL.fieldAddr fp_155_1 rfl ?_
    refine SXL.indexA el_153 rfl rfl (by omega) ?_
    refine SXL.store 2 sz_3 rfl rfl rfl rfl rfl (ints_put (i := 10 + k) (by omega) (by simp only [List.length_set, hB.len]; omega)) ?_
    refine SXL.nil ?_
    refine thenQ.normal ?_
    refine SX.seq ?_
    refine SX.region ?_
    refine SXL.assign rfl ?_
    refine SXL.nil ?_
    refine thenQ.normal ?_
    refine SX.block ?_
    refine SX.loopG (α := Nat) [1, 2, 3, 4] rfl (fun j => [(5, .int .i64 (j : Int))]) (fun j => [(2, (b2, .cells ⟨ints (weekTo s (baseTo s k) k j)⟩ 155 (0, 0)))]) (fun j => j ≤ s.most.toNat + 1) (fun j => s.most.toNat + 1 - j) 0 (Nat.zero_le _) ⟨rfl, trivial⟩ rfl ?_
    rintro j hj
    have hBj := Bd.week (s := s) hB hH.2.1 (w := k) (by omega) j (by omega)
    refine SX.seq ?_
    refine SX.seq ?_
    refine SX.region ?_
    refine SXL.move rfl ?_
    refine SXL.fieldAddr fp_68_1 rfl ?_
    refine SXL.load1o 0 sh_3 rfl rfl rfl ?_
    refine SXL.leq rfl rfl ?_
    refine SXL.nil ?_
    refine thenQ.normal ?_
    refine SX.condP rfl (fun c27 => ?_) (fun c27 => ?_)
    · refine SX.skip ?_
      refine thenQ.normal ?_
      refine SX.seq ?_
      refine SX.block ?_
      refine SX.seq ?_
      refine SX.region ?_
      refine SXL.assign rfl ?_
      refine SXL.nil ?_
      refine thenQ.normal ?_
      refine SX.seq ?_
      refine SX.seq ?_
      refine SX.region ?_
      refine SXL.fieldAddr fp_68_6 rfl ?_
      refine SXL.load1o 0 sh_66 rfl rfl rfl ?_
      refine SXL.len is_66 rfl ?_
      refine SXL.move rfl ?_
      refine SXL.nil ?_
      refine thenQ.normal ?_
      refine SX.block ?_
      refine SX.loopG (α := Nat) [1, 2, 3, 4, 5, 31, 32] rfl (fun i => [(33, .int .i64 (i : Int)), (6, .bool (decide (OkTo s k (j : Int) i)))]) (fun i => []) (fun i => i ≤ s.reads.length) (fun i => s.reads.length - i) 0 (Nat.zero_le _) ⟨rfl, (congrArg (fun b => some (Value.bool b)) (decide_eq_true (okTo_zero s k j)).symm), trivial⟩ rfl ?_
      rintro i hi
      refine SX.seq ?_
      refine SX.region ?_
      refine SXL.lss rfl rfl ?_
      refine SXL.nil ?_
      refine thenQ.normal ?_
      refine SX.seq ?_
      refine SX.condP rfl (fun c34 => ?_) (fun c34 => ?_)
      · refine SX.skip ?_
        refine thenQ.normal ?_
        refine SX.seq ?_
        refine SX.block ?_
        refine SX.seq ?_
        have hlt : i < s.reads.length := by omega
        obtain ⟨b, o, ha, hm⟩ := hs.read hlt
        have hR := (hv.2.2 i hlt).1
        refine SX.region ?_
        refine SXL.indexR el_66 rfl rfl ha (by omega) ?_
        refine SXL.loadN sh_131 rfl (hm _) rfl ?_
        refine SXL.alloc zp_131 ?_; intro b3
        refine SXL.store 3 sz_131 rfl rfl rfl rfl rfl rfl ?_
        refine SXL.nil ?_
        refine thenQ.normal ?_
        refine SX.region ?_
        refine SXL.move rfl ?_
        refine SXL.move rfl ?_
        apply SXL.andG 10
        case hl => exact rfl
        case hd => exact rfl
        case hg => exact rfl
        case ht =>
          intro g4
          refine SXL.fieldAddr fp_131_1 rfl ?_
          refine SXL.load1o 3 sh_3 rfl rfl rfl ?_
          refine SXL.move rfl ?_
          refine SXL.neqI rfl rfl ?_
          refine SXL.move rfl ?_
          apply SXL.orG 4
          case hl => exact rfl
          case hd => exact rfl
          case hg => exact rfl
          case ht =>
            intro g5
            refine SXL.pass rfl rfl rfl ?_
            refine SXL.pass rfl rfl rfl ?_
            refine SXL.pass rfl rfl rfl ?_
            refine SXL.pass rfl rfl rfl ?_
            exact SXL.nil (segQ.mk (.skip rfl (.skip rfl (.skip rfl (.skip rfl (.skip rfl (EnvSub.refl _)))))) rfl rfl rfl)
          case hf =>
            intro g5
            refine SXL.loadNo 0 sh_68 rfl rfl rfl ?_
            refine SXL.loadNo 3 sh_131 rfl rfl rfl ?_
            refine SXL.move rfl ?_
            refine SXL.call1 (.bool (decide (Right s s.reads[i] (j : Int)))) fn_117 rfl (fun w hI => right_any s bo ro bc rc _ _ (by omega) (by omega) (by omega) (by omega) _) ?_
            exact SXL.nil (segQ.mk (.skip rfl (.skip rfl (.skip rfl (.skip rfl (.skip rfl (EnvSub.refl _)))))) rfl rfl ⟨rfl, rfl⟩)
          exact SXL.nil (segQ.mk (.skip rfl (.skip rfl (.skip rfl (.skip rfl (.skip rfl (.skip rfl (EnvSub.refl _))))))) rfl rfl ⟨rfl, rfl⟩)
        case hf =>
          intro g4
          refine SXL.pass rfl rfl rfl ?_
          refine SXL.pass rfl rfl rfl ?_
          refine SXL.pass rfl rfl rfl ?_
          refine SXL.pass rfl rfl rfl ?_
          refine SXL.pass rfl rfl rfl ?_
          refine SXL.pass rfl rfl rfl ?_
          refine SXL.pass rfl rfl rfl ?_
          refine SXL.pass rfl rfl rfl ?_
          refine SXL.pass rfl rfl rfl ?_
          refine SXL.pass rfl rfl rfl ?_
          exact SXL.nil (segQ.mk (.skip rfl (.skip rfl (.skip rfl (.skip rfl (.skip rfl (.skip rfl (.skip rfl (.skip rfl (.skip rfl (.skip rfl (.skip rfl (EnvSub.refl _)))))))))))) rfl rfl rfl)
        refine SXL.assign rfl ?_
        refine SXL.nil ?_
        refine blockQ.normal ?_
        refine thenQ.normal ?_
        refine SX.region ?_
        refine SXL.add rfl rfl (by omega) ?_
        refine SXL.move rfl ?_
        refine SXL.nil ?_
        refine thenQ.normal ?_
        refine ⟨i + 1, Meets.mk _ ⟨rfl, (congrArg (fun b => some (Value.bool b)) (decide_eq_decide.2 (okTo_succ hlt))), trivial⟩ ⟨rfl, rfl, rfl, rfl, rfl, rfl, rfl, trivial⟩ rfl, (by omega), (by omega)⟩
      · refine SX.exit ?_
        refine thenQ.exit ?_
        refine thenQ.exit ?_
        refine blockQ.exit ?_
        refine thenQ.normal ?_
        refine SX.seq ?_
        obtain rfl : i = s.reads.length := by omega
        refine SX.region ?_
        refine SXL.move rfl ?_
        refine SXL.nil ?_
        refine thenQ.normal ?_
        refine SX.condP rfl (fun c51 => ?_) (fun c51 => ?_)
        · refine SX.region ?_
          refine SXL.move rfl ?_
          refine SXL.move rfl ?_
          refine SXL.move rfl ?_
          refine SXL.fieldAddr fp_155_0 rfl ?_
          refine SXL.indexA el_153 rfl rfl (by omega) ?_
          refine SXL.load1o 2 sh_3 rfl rfl (intsAtX (i := k) (by omega) (by simp only [hBj.len]; omega)) ?_
          refine SXL.move rfl ?_
          refine SXL.min rfl rfl ?_
          refine SXL.move rfl ?_
          refine SXL.fieldAddr fp_155_0 rfl ?_
          refine SXL.indexA el_153 rfl rfl (by omega) ?_
          refine SXL.store 2 sz_3 rfl rfl rfl rfl rfl (ints_put (i := k) (by omega) (by simp only [hBj.len]; omega)) ?_
          refine SXL.fieldAddr fp_155_1 rfl ?_
          refine SXL.indexA el_153 rfl rfl (by omega) ?_
          refine SXL.store 2 sz_3 rfl rfl rfl rfl rfl (ints_put (i := 10 + k) (by omega) (by simp only [List.length_set, hBj.len]; omega)) ?_
          refine SXL.nil ?_
          refine blockQ.normal ?_
          refine thenQ.normal ?_
          refine SX.region ?_
          refine SXL.move rfl ?_
          refine SXL.add rfl rfl (by omega) ?_
          refine SXL.assign rfl ?_
          refine SXL.nil ?_
          refine thenQ.normal ?_
          refine ⟨j + 1, Meets.mk _ ⟨rfl, trivial⟩ ⟨rfl, rfl, rfl, rfl, trivial⟩ (by first | (rw [show weekTo s (baseTo s k) k (j + 1) = _ from if_pos (okTo_all c51)]; rfl) | (rw [show weekTo s (baseTo s k) k (j + 1) = _ from if_neg (okTo_not c51)]; rfl)), (by omega), (by omega)⟩
        · refine SX.skip ?_
          refine blockQ.normal ?_
          refine thenQ.normal ?_
          refine SX.region ?_
          refine SXL.move rfl ?_
          refine SXL.add rfl rfl (by omega) ?_
          refine SXL.assign rfl ?_
          refine SXL.nil ?_
          refine thenQ.normal ?_
          refine ⟨j + 1, Meets.mk _ ⟨rfl, trivial⟩ ⟨rfl, rfl, rfl, rfl, trivial⟩ (by first | (rw [show weekTo s (baseTo s k) k (j + 1) = _ from if_pos (okTo_all c51)]; rfl) | (rw [show weekTo s (baseTo s k) k (j + 1) = _ from if_neg (okTo_not c51)]; rfl)), (by omega), (by omega)⟩
    · refine SX.exit ?_
      refine thenQ.exit ?_
      refine thenQ.exit ?_
      refine blockQ.exit ?_
      refine blockQ.normal ?_
      refine thenQ.normal ?_
      obtain rfl : j = s.most.toNat + 1 := by omega
      refine SX.region ?_
      refine SXL.move rfl ?_
      refine SXL.add rfl rfl (by omega) ?_
      refine SXL.assign rfl ?_
      refine SXL.nil ?_
      refine thenQ.normal ?_
      refine ⟨k + 1, Meets.mk _ ⟨rfl, trivial⟩ ⟨rfl, rfl, rfl, trivial⟩ rfl, (by omega), (by omega)⟩
  · refine SX.exit ?_
    refine thenQ.exit ?_
    refine thenQ.exit ?_
    refine blockQ.exit ?_
    refine thenQ.normal ?_
    refine SX.seq ?_
    refine SX.region ?_
    refine SXL.loadNo 2 sh_155 rfl rfl (takeAt_full (by simp only [length_ints, hB.len])) ?_
    refine SXL.store 1 sz_155 rfl rfl rfl rfl (by simp only [length_ints, hB.len]) (putAt_all _ _ (by simp only [length_ints, hB.len]; rfl)) ?_ (ints_isOne _)
    refine SXL.nil ?_
    refine thenQ.normal ?_
    refine SX.ret ?_
    refine retQ.one (ResAt.cellNo 1 sh_155 rfl rfl (takeAt_full (by simp only [length_ints, hB.len]))) ?_
    rw [show k = s.weeks.toNat by omega]; rfl
set_option maxHeartbeats 1000000 in
theorem leaves_any (s : Sp) (bo ro : Option Addr) (bc rc : Nat) (L : List Int) (hL : Bd L) (rain : Int) (hv : SpP s) (w : World) (hs : SpAt w s bo ro) :
    CallsR Tryd.prog 116 [.agg ⟨[.int .i64 s.weeks, .int .i64 s.most, .int .i64 s.fall, .int .i64 s.a0, .int .i64 s.a1, .int .i64 s.w0, .int .i64 s.w1, (.slice bo s.book.length bc), (.slice ro s.reads.length rc)]⟩, .agg ⟨ints L⟩, .int .i64 rain] w (fun v _ => v = .tuple ⟨[.agg ⟨ints (lvL s L rain)⟩, .bool (decide (lvB s L rain))]⟩) := by
  have hH := hv.1
  unfold HeadP at hH
  refine CallsR.of_SX (n := 143) (rs := [.cell 6 155, .tmp 7]) Tryd.func116 rfl rfl rfl rfl ?_
  show SX _ _ _ ⟨[(0, .agg ⟨[.int .i64 s.weeks, .int .i64 s.most, .int .i64 s.fall, .int .i64 s.a0, .int .i64 s.a1, .int .i64 s.w0, .int .i64 s.w1, (.slice bo s.book.length bc), (.slice ro s.reads.length rc)]⟩), (1, .agg ⟨ints L⟩), (2, .int .i64 rain)], [], []⟩
  refine SX.seq ?_
  refine SX.region ?_
  refine SXL.box rfl rfl ?_; intro b0
  refine SXL.box rfl rfl ?_; intro b1
  refine SXL.alloc zp_155 ?_; intro b2
  refine SXL.assign rfl ?_
  refine SXL.nil ?_
  refine thenQ.normal ?_
  refine SX.seq ?_
  refine SX.seq ?_
  refine SX.region ?_
  refine SXL.fieldAddr fp_68_5 rfl ?_
  refine SXL.load1o 0 sh_65 rfl rfl rfl ?_
  refine SXL.len is_65 rfl ?_
  refine SXL.move rfl ?_
  refine SXL.nil ?_
  refine thenQ.normal ?_
  refine SX.block ?_
  refine SX.loopG (α := Nat) [2, 3, 4, 6, 7, 14, 15] rfl (fun i => [(16, .int .i64 (i : Int))]) (fun i => [(1, (b1, .cells ⟨ints (linesTo s L rain i)⟩ 155 (0, 0)))]) (fun i => i ≤ s.book.length) (fun i => s.book.length - i) 0 (Nat.zero_le _) ⟨rfl, trivial⟩ rfl ?_
  rintro i hi
  have hM := hL.lines hv.2.1 hH.1 rain i
  refine SX.seq ?_
  refine SX.region ?_
  refine SXL.lss rfl rfl ?_
  refine SXL.nil ?_
  refine thenQ.normal ?_
  refine SX.seq ?_
  refine SX.condP rfl (fun c17 => ?_) (fun c17 => ?_)
  · refine SX.skip ?_
    refine thenQ.normal ?_
    refine SX.seq ?_
    refine SX.block ?_
    refine SX.seq ?_
    have hlt : i < s.book.length := by omega
    obtain ⟨b, o, ha, hm⟩ := hs.line hlt
    have hl := hv.2.1 i hlt
    refine SX.region ?_
    refine SXL.indexR el_65 rfl rfl ha (by omega) ?_
    refine SXL.loadN sh_129 rfl (hm _) rfl ?_
    refine SXL.alloc zp_129 ?_; intro b3
    refine SXL.store 3 sz_129 rfl rfl rfl rfl rfl rfl ?_
    refine SXL.nil ?_
    refine thenQ.normal ?_
    refine SX.seq ?_
    refine SX.region ?_
    refine SXL.move rfl ?_
    refine SXL.fieldAddr fp_129_0 rfl ?_
    refine SXL.fieldAddr fp_55_0 rfl ?_
    refine SXL.load1o 3 sh_3 rfl rfl rfl ?_
    refine SXL.fieldAddr fp_129_0 rfl ?_
    refine SXL.fieldAddr fp_55_1 rfl ?_
    refine SXL.load1o 3 sh_3 rfl rfl rfl ?_
    refine SXL.call1 (.bool (decide (Wi rain s.book[i].r0 s.book[i].r1))) fn_101 rfl (fun w hI => within_any _ _ _ _) ?_
    refine SXL.nil ?_
    refine thenQ.normal ?_
    refine SX.condP rfl (fun c27 => ?_) (fun c27 => ?_)
    · refine SX.draw 28 (by kernel_rfl) (by kernel_rfl) ⟨[2, 3, 13, 14, 18, 19, 20, 21, 22, 25, 26, 27], [true, false]⟩ ?_
      refine SXA.take 0 2 rfl (by kernel_rfl) rfl ?_
      refine SXL.fieldAddr fp_129_1 rfl ?_
      refine SXL.load1o 3 sh_3 rfl rfl rfl ?_
      refine SXL.nil ⟨rfl, rfl, rfl, ?_⟩
      refine SXA.takeM 2 2 rfl (by kernel_rfl) rfl ?_
      refine SXL.fieldAddr fp_129_1 rfl ?_
      refine SXL.load1o 2 sh_3 rfl rfl rfl ?_
      refine SXL.nil ⟨rfl, rfl, rfl, ?_⟩
      refine SXA.take 4 9 rfl (by kernel_rfl) rfl ?_
      refine SXL.fieldAddr fp_129_1 rfl ?_
      refine SXL.load1o 3 sh_3 rfl rfl rfl ?_
      refine SXL.fieldAddr fp_155_0 rfl ?_
      refine SXL.indexA el_153 rfl rfl (by omega) ?_
      refine SXL.load1o 1 sh_3 rfl rfl (intsAtX (i := s.book[i].wk.toNat) (by omega) (by simp only [hM.len]; omega)) ?_
      refine SXL.fieldAddr fp_129_2 rfl ?_
      refine SXL.fieldAddr fp_55_0 rfl ?_
      refine SXL.load1o 3 sh_3 rfl rfl rfl ?_
      refine SXL.max rfl rfl ?_
      refine SXL.nil ⟨rfl, rfl, rfl, ?_⟩
      refine SXA.takeM 13 2 rfl (by kernel_rfl) rfl ?_
      refine SXL.fieldAddr fp_129_1 rfl ?_
      refine SXL.load1o 2 sh_3 rfl rfl rfl ?_
      refine SXL.nil ⟨rfl, rfl, rfl, ?_⟩
      refine SXA.take 15 3 rfl (by kernel_rfl) rfl ?_
      refine SXL.fieldAddr fp_155_1 rfl ?_
      refine SXL.indexA el_153 rfl rfl (by omega) ?_
      refine SXL.load1o 1 sh_3 rfl rfl (intsAtX (i := 10 + s.book[i].wk.toNat) (by omega) (by simp only [hM.len]; omega)) ?_
      refine SXL.nil ⟨rfl, rfl, rfl, ?_⟩
      refine SXA.takeM 18 5 rfl (by kernel_rfl) rfl ?_
      refine SXL.fieldAddr fp_129_2 rfl ?_
      refine SXL.fieldAddr fp_55_1 rfl ?_
      refine SXL.load1o 2 sh_3 rfl rfl rfl ?_
      refine SXL.min rfl rfl ?_
      refine SXL.fieldAddr fp_155_0 rfl ?_
      refine SXL.nil ⟨rfl, rfl, rfl, ?_⟩
      refine SXA.take 23 1 rfl (by kernel_rfl) rfl ?_
      refine SXL.indexA el_153 rfl rfl (by omega) ?_
      refine SXL.nil ⟨rfl, rfl, rfl, ?_⟩
      refine SXA.takeM 25 1 rfl (by kernel_rfl) rfl ?_
      refine SXL.fieldAddr fp_155_1 rfl ?_
      refine SXL.nil ⟨rfl, rfl, rfl, ?_⟩
      refine SXA.all [24] (by kernel_rfl) rfl ⟨⟨?_, rfl⟩, trivial⟩
      refine (show SXL _ _ [_] _ _ from ?_)
      refine SXL.store 1 sz_3 rfl rfl rfl rfl rfl (ints_put (i := s.book[i].wk.toNat) (by omega) (by simp only [hM.len]; omega)) ?_
      refine SXL.nil (stepQ.mkL _ (by kernel_rfl) rfl rfl ?_)
      refine SXA.takeM 26 1 rfl (by kernel_rfl) rfl ?_
      refine SXL.indexA el_153 rfl rfl (by omega) ?_
      refine SXL.nil ⟨rfl, rfl, rfl, ?_⟩
      refine SXA.all [27] (by kernel_rfl) rfl ⟨⟨?_, rfl⟩, trivial⟩
      refine (show SXL _ _ [_] _ _ from ?_)
      refine SXL.store 1 sz_3 rfl rfl rfl rfl rfl (ints_put (i := 10 + s.book[i].wk.toNat) (by omega) (by simp only [List.length_set, hM.len]; omega)) ?_
      refine SXL.nil (stepQ.mkL _ (by kernel_rfl) rfl rfl ?_)
      refine SXA.done (by kernel_rfl) ?_
      refine SXL.nil ?_
      refine blockQ.normal ?_
      refine thenQ.normal ?_
      refine SX.region ?_
      refine SXL.add rfl rfl (by omega) ?_
      refine SXL.move rfl ?_
      refine SXL.nil ?_
      refine thenQ.normal ?_
      refine ⟨i + 1, Meets.mk _ ⟨rfl, trivial⟩ ⟨rfl, rfl, rfl, rfl, rfl, rfl, rfl, trivial⟩ (by first | (rw [linesTo_yes rain hlt c27]; rfl) | (rw [linesTo_no rain hlt c27]; rfl)), (by omega), (by omega)⟩
    · refine SX.skip ?_
      refine blockQ.normal ?_
      refine thenQ.normal ?_
      refine SX.region ?_
      refine SXL.add rfl rfl (by omega) ?_
      refine SXL.move rfl ?_
      refine SXL.nil ?_
      refine thenQ.normal ?_
      refine ⟨i + 1, Meets.mk _ ⟨rfl, trivial⟩ ⟨rfl, rfl, rfl, rfl, rfl, rfl, rfl, trivial⟩ (by first | (rw [linesTo_yes rain hlt c27]; rfl) | (rw [linesTo_no rain hlt c27]; rfl)), (by omega), (by omega)⟩
  · refine SX.exit ?_
    refine thenQ.exit ?_
    refine thenQ.exit ?_
    refine blockQ.exit ?_
    refine thenQ.normal ?_
    refine SX.seq ?_
    refine SX.seq ?_
    obtain rfl : i = s.book.length := by omega
    refine SX.region ?_
    refine SXL.assign rfl ?_
    refine SXL.nil ?_
    refine thenQ.normal ?_
    refine SX.block ?_
    refine SX.loopG (α := Nat) [3, 4, 6, 7] rfl (fun j => [(10, .int .i64 ((j : Int) + 1))]) (fun j => [(1, (b1, .cells ⟨ints (fwdTo s.fall (linesTo s L rain s.book.length) j)⟩ 155 (0, 0)))]) (fun j => j ≤ s.weeks.toNat - 1) (fun j => s.weeks.toNat - 1 - j) 0 (Nat.zero_le _) ⟨rfl, trivial⟩ rfl ?_
    rintro j hj
    have hF := hM.fwd hH.2.2.1 j (by omega)
    have g1 := hF.2 j (by omega)
    refine SX.seq ?_
    refine SX.seq ?_
    refine SX.region ?_
    refine SXL.move rfl ?_
    refine SXL.fieldAddr fp_68_0 rfl ?_
    refine SXL.load1o 0 sh_3 rfl rfl rfl ?_
    refine SXL.lss rfl rfl ?_
    refine SXL.nil ?_
    refine thenQ.normal ?_
    refine SX.condP rfl (fun c58 => ?_) (fun c58 => ?_)
    · refine SX.skip ?_
      refine thenQ.normal ?_
      refine SX.seq ?_
      refine SX.block ?_
      have g2 := hF.2 (j + 1) (by omega)
      have g3 := hF.2 (10 + j) (by omega)
      have g4 := hF.2 (10 + (j + 1)) (by omega)
      refine SX.draw 31 (by kernel_rfl) (by kernel_rfl) ⟨[1, 15, 19, 20, 24, 25, 28, 29, 30], [true, false]⟩ ?_
      refine SXA.take 0 1 rfl (by kernel_rfl) rfl ?_
      refine SXL.move rfl ?_
      refine SXL.nil ⟨rfl, rfl, rfl, ?_⟩
      refine SXA.takeM 1 1 rfl (by kernel_rfl) rfl ?_
      refine SXL.move rfl ?_
      refine SXL.nil ⟨rfl, rfl, rfl, ?_⟩
      refine SXA.take 2 13 rfl (by kernel_rfl) rfl ?_
      refine SXL.move rfl ?_
      refine SXL.fieldAddr fp_155_0 rfl ?_
      refine SXL.indexA el_153 rfl rfl (by omega) ?_
      refine SXL.load1o 1 sh_3 rfl rfl (intsAtX (i := j + 1) (by omega) (by simp only [hF.len]; omega)) ?_
      refine SXL.move rfl ?_
      refine SXL.sub rfl rfl (by omega) ?_
      refine SXL.fieldAddr fp_155_0 rfl ?_
      refine SXL.indexA el_153 rfl rfl (by omega) ?_
      refine SXL.load1o 1 sh_3 rfl rfl (intsAtX (i := j) (by omega) (by simp only [hF.len]; omega)) ?_
      refine SXL.fieldAddr fp_68_2 rfl ?_
      refine SXL.load1o 0 sh_3 rfl rfl rfl ?_
      refine SXL.sub rfl rfl (by omega) ?_
      refine SXL.max rfl rfl ?_
      refine SXL.nil ⟨rfl, rfl, rfl, ?_⟩
      refine SXA.takeM 15 1 rfl (by kernel_rfl) rfl ?_
      refine SXL.move rfl ?_
      refine SXL.nil ⟨rfl, rfl, rfl, ?_⟩
      refine SXA.take 16 3 rfl (by kernel_rfl) rfl ?_
      refine SXL.fieldAddr fp_155_1 rfl ?_
      refine SXL.indexA el_153 rfl rfl (by omega) ?_
      refine SXL.load1o 1 sh_3 rfl rfl (intsAtX (i := 10 + (j + 1)) (by omega) (by simp only [hF.len]; omega)) ?_
      refine SXL.nil ⟨rfl, rfl, rfl, ?_⟩
      refine SXA.takeM 19 2 rfl (by kernel_rfl) rfl ?_
      refine SXL.move rfl ?_
      refine SXL.sub rfl rfl (by omega) ?_
      refine SXL.nil ⟨rfl, rfl, rfl, ?_⟩
      refine SXA.take 21 3 rfl (by kernel_rfl) rfl ?_
      refine SXL.fieldAddr fp_155_1 rfl ?_
      refine SXL.indexA el_153 rfl rfl (by omega) ?_
      refine SXL.load1o 1 sh_3 rfl rfl (intsAtX (i := 10 + j) (by omega) (by simp only [hF.len]; omega)) ?_
      refine SXL.nil ⟨rfl, rfl, rfl, ?_⟩
      refine SXA.takeM 24 2 rfl (by kernel_rfl) rfl ?_
      refine SXL.min rfl rfl ?_
      refine SXL.fieldAddr fp_155_0 rfl ?_
      refine SXL.nil ⟨rfl, rfl, rfl, ?_⟩
      refine SXA.take 26 1 rfl (by kernel_rfl) rfl ?_
      refine SXL.indexA el_153 rfl rfl (by omega) ?_
      refine SXL.nil ⟨rfl, rfl, rfl, ?_⟩
      refine SXA.takeM 28 1 rfl (by kernel_rfl) rfl ?_
      refine SXL.fieldAddr fp_155_1 rfl ?_
      refine SXL.nil ⟨rfl, rfl, rfl, ?_⟩
      refine SXA.all [27] (by kernel_rfl) rfl ⟨⟨?_, rfl⟩, trivial⟩
      refine (show SXL _ _ [_] _ _ from ?_)
      refine SXL.store 1 sz_3 rfl rfl rfl rfl rfl (ints_put (i := j + 1) (by omega) (by simp only [hF.len]; omega)) ?_
      refine SXL.nil (stepQ.mkL _ (by kernel_rfl) rfl rfl ?_)
      refine SXA.takeM 29 1 rfl (by kernel_rfl) rfl ?_
      refine SXL.indexA el_153 rfl rfl (by omega) ?_
      refine SXL.nil ⟨rfl, rfl, rfl, ?_⟩
      refine SXA.all [30] (by kernel_rfl) rfl ⟨⟨?_, rfl⟩, trivial⟩
      refine (show SXL _ _ [_] _ _ from ?_)
      refine SXL.store 1 sz_3 rfl rfl rfl rfl rfl (ints_put (i := 10 + (j + 1)) (by omega) (by simp only [List.length_set, hF.len]; omega)) ?_
      refine SXL.nil (stepQ.mkL _ (by kernel_rfl) rfl rfl ?_)
      refine SXA.done (by kernel_rfl) ?_
      refine SXL.nil ?_
      refine blockQ.normal ?_
      refine thenQ.normal ?_
      refine SX.region ?_
      refine SXL.move rfl ?_
      refine SXL.add rfl rfl (by omega) ?_
      refine SXL.assign rfl ?_
      refine SXL.nil ?_
      refine thenQ.normal ?_
      refine ⟨j + 1, Meets.mk _ ⟨rfl, trivial⟩ ⟨rfl, rfl, rfl, rfl, trivial⟩ rfl, (by omega), (by omega)⟩
    · refine SX.exit ?_
      refine thenQ.exit ?_
      refine thenQ.exit ?_
      refine blockQ.exit ?_
      refine thenQ.normal ?_
      refine SX.seq ?_
      refine SX.seq ?_
      obtain rfl : j = s.weeks.toNat - 1 := by omega
      refine SX.region ?_
      refine SXL.fieldAddr fp_68_0 rfl ?_
      refine SXL.load1o 0 sh_3 rfl rfl rfl ?_
      refine SXL.sub rfl rfl (by omega) ?_
      refine SXL.assign rfl ?_
      refine SXL.nil ?_
      refine thenQ.normal ?_
      refine SX.block ?_
      refine SX.loopG (α := Nat) [3, 4, 6, 7] rfl (fun j => [(11, .int .i64 (s.weeks - 2 - (j : Int)))]) (fun j => [(1, (b1, .cells ⟨ints (bwdTo s.fall (s.weeks.toNat - 1) (fwdTo s.fall (linesTo s L rain s.book.length) (s.weeks.toNat - 1)) j)⟩ 155 (0, 0)))]) (fun j => j ≤ s.weeks.toNat - 1) (fun j => s.weeks.toNat - 1 - j) 0 (Nat.zero_le _) ⟨congrArg (fun z => some (Value.int .i64 z)) (show s.weeks - 2 = s.weeks - 2 - ((0 : Nat) : Int) by omega), trivial⟩ rfl ?_
      rintro j hj
      have hW := hF.bwd (n := s.weeks.toNat - 1) hH.2.2.1 (by omega) j (by omega)
      refine SX.seq ?_
      refine SX.seq ?_
      refine SX.region ?_
      refine SXL.move rfl ?_
      refine SXL.geq rfl rfl ?_
      refine SXL.nil ?_
      refine thenQ.normal ?_
      refine SX.condP rfl (fun c94 => ?_) (fun c94 => ?_)
      · refine SX.skip ?_
        refine thenQ.normal ?_
        refine SX.seq ?_
        refine SX.block ?_
        have hw8 : s.weeks.toNat - 1 - 1 - j ≤ 8 := by omega
        have g1 := hW.2 (s.weeks.toNat - 1 - 1 - j) (by omega)
        have g2 := hW.2 (s.weeks.toNat - 1 - 1 - j + 1) (by omega)
        have g3 := hW.2 (10 + (s.weeks.toNat - 1 - 1 - j)) (by omega)
        have g4 := hW.2 (10 + (s.weeks.toNat - 1 - 1 - j + 1)) (by omega)
        refine SX.draw 31 (by kernel_rfl) (by kernel_rfl) ⟨[1, 12, 16, 17, 21, 22, 23, 24, 25, 28, 29, 30], [true, false]⟩ ?_
        refine SXA.take 0 1 rfl (by kernel_rfl) rfl ?_
        refine SXL.move rfl ?_
        refine SXL.nil ⟨rfl, rfl, rfl, ?_⟩
        refine SXA.takeM 1 1 rfl (by kernel_rfl) rfl ?_
        refine SXL.move rfl ?_
        refine SXL.nil ⟨rfl, rfl, rfl, ?_⟩
        refine SXA.take 2 10 rfl (by kernel_rfl) rfl ?_
        refine SXL.move rfl ?_
        refine SXL.fieldAddr fp_155_0 rfl ?_
        refine SXL.indexA el_153 rfl rfl (by omega) ?_
        refine SXL.load1o 1 sh_3 rfl rfl (intsAtX (i := s.weeks.toNat - 1 - 1 - j) (by omega) (by simp only [hW.len]; omega)) ?_
        refine SXL.move rfl ?_
        refine SXL.add rfl rfl (by omega) ?_
        refine SXL.fieldAddr fp_155_0 rfl ?_
        refine SXL.indexA el_153 rfl rfl (by omega) ?_
        refine SXL.load1o 1 sh_3 rfl rfl (intsAtX (i := s.weeks.toNat - 1 - 1 - j + 1) (by omega) (by simp only [hW.len]; omega)) ?_
        refine SXL.max rfl rfl ?_
        refine SXL.nil ⟨rfl, rfl, rfl, ?_⟩
        refine SXA.takeM 12 1 rfl (by kernel_rfl) rfl ?_
        refine SXL.move rfl ?_
        refine SXL.nil ⟨rfl, rfl, rfl, ?_⟩
        refine SXA.take 13 3 rfl (by kernel_rfl) rfl ?_
        refine SXL.fieldAddr fp_155_1 rfl ?_
        refine SXL.indexA el_153 rfl rfl (by omega) ?_
        refine SXL.load1o 1 sh_3 rfl rfl (intsAtX (i := 10 + (s.weeks.toNat - 1 - 1 - j)) (by omega) (by simp only [hW.len]; omega)) ?_
        refine SXL.nil ⟨rfl, rfl, rfl, ?_⟩
        refine SXA.takeM 16 2 rfl (by kernel_rfl) rfl ?_
        refine SXL.move rfl ?_
        refine SXL.add rfl rfl (by omega) ?_
        refine SXL.nil ⟨rfl, rfl, rfl, ?_⟩
        refine SXA.take 18 3 rfl (by kernel_rfl) rfl ?_
        refine SXL.fieldAddr fp_155_1 rfl ?_
        refine SXL.indexA el_153 rfl rfl (by omega) ?_
        refine SXL.load1o 1 sh_3 rfl rfl (intsAtX (i := 10 + (s.weeks.toNat - 1 - 1 - j + 1)) (by omega) (by simp only [hW.len]; omega)) ?_
        refine SXL.nil ⟨rfl, rfl, rfl, ?_⟩
        refine SXA.takeM 21 5 rfl (by kernel_rfl) rfl ?_
        refine SXL.fieldAddr fp_68_2 rfl ?_
        refine SXL.load1o 0 sh_3 rfl rfl rfl ?_
        refine SXL.add rfl rfl (by omega) ?_
        refine SXL.min rfl rfl ?_
        refine SXL.fieldAddr fp_155_0 rfl ?_
        refine SXL.nil ⟨rfl, rfl, rfl, ?_⟩
        refine SXA.take 26 1 rfl (by kernel_rfl) rfl ?_
        refine SXL.indexA el_153 rfl rfl (by omega) ?_
        refine SXL.nil ⟨rfl, rfl, rfl, ?_⟩
        refine SXA.takeM 28 1 rfl (by kernel_rfl) rfl ?_
        refine SXL.fieldAddr fp_155_1 rfl ?_
        refine SXL.nil ⟨rfl, rfl, rfl, ?_⟩
        refine SXA.all [27] (by kernel_rfl) rfl ⟨⟨?_, rfl⟩, trivial⟩
        refine (show SXL _ _ [_] _ _ from ?_)
        refine SXL.store 1 sz_3 rfl rfl rfl rfl rfl (ints_put (i := s.weeks.toNat - 1 - 1 - j) (by omega) (by simp only [hW.len]; omega)) ?_
        refine SXL.nil (stepQ.mkL _ (by kernel_rfl) rfl rfl ?_)
        refine SXA.takeM 29 1 rfl (by kernel_rfl) rfl ?_
        refine SXL.indexA el_153 rfl rfl (by omega) ?_
        refine SXL.nil ⟨rfl, rfl, rfl, ?_⟩
        refine SXA.all [30] (by kernel_rfl) rfl ⟨⟨?_, rfl⟩, trivial⟩
        refine (show SXL _ _ [_] _ _ from ?_)
        refine SXL.store 1 sz_3 rfl rfl rfl rfl rfl (ints_put (i := 10 + (s.weeks.toNat - 1 - 1 - j)) (by omega) (by simp only [List.length_set, hW.len]; omega)) ?_
        refine SXL.nil (stepQ.mkL _ (by kernel_rfl) rfl rfl ?_)
        refine SXA.done (by kernel_rfl) ?_
        refine SXL.nil ?_
        refine blockQ.normal ?_
        refine thenQ.normal ?_
        refine SX.region ?_
        refine SXL.move rfl ?_
        refine SXL.sub rfl rfl (by omega) ?_
        refine SXL.assign rfl ?_
        refine SXL.nil ?_
        refine thenQ.normal ?_
        refine ⟨j + 1, Meets.mk _ ⟨congrArg (fun z => some (Value.int .i64 z)) (show s.weeks - 2 - (j : Int) - 1 = s.weeks - 2 - ((j + 1 : Nat) : Int) by omega), trivial⟩ ⟨rfl, rfl, rfl, rfl, trivial⟩ rfl, (by omega), (by omega)⟩
      · refine SX.exit ?_
        refine thenQ.exit ?_
        refine thenQ.exit ?_
        refine blockQ.exit ?_
        refine thenQ.normal ?_
        refine SX.seq ?_
        refine SX.seq ?_
        obtain rfl : j = s.weeks.toNat - 1 := by omega
        refine SX.region ?_
        refine SXL.assign rfl ?_
        refine SXL.nil ?_
        refine thenQ.normal ?_
        refine SX.block ?_
        refine SX.loopG (α := Nat) [3, 4, 6, 7] rfl (fun i => [(12, .int .i64 (i : Int))]) (fun i => []) (fun i => i ≤ s.weeks.toNat ∧ ∀ w, w < i → G (lvL s L rain) w ≤ G (lvL s L rain) (10 + w)) (fun i => s.weeks.toNat - i) 0 ⟨Nat.zero_le _, fun _ h => absurd h (Nat.not_lt_zero _)⟩ ⟨rfl, trivial⟩ rfl ?_
        rintro i ⟨hi2, hall⟩
        refine SX.seq ?_
        refine SX.seq ?_
        refine SX.region ?_
        refine SXL.move rfl ?_
        refine SXL.fieldAddr fp_68_0 rfl ?_
        refine SXL.load1o 0 sh_3 rfl rfl rfl ?_
        refine SXL.lss rfl rfl ?_
        refine SXL.nil ?_
        refine thenQ.normal ?_
        refine SX.condP rfl (fun c129 => ?_) (fun c129 => ?_)
        · refine SX.skip ?_
          refine thenQ.normal ?_
          refine SX.seq ?_
          refine SX.block ?_
          refine SX.seq ?_
          refine SX.draw 9 (by kernel_rfl) (by kernel_rfl) {} ?_
          refine SXA.take 0 9 rfl (by kernel_rfl) rfl ?_
          refine SXL.move rfl ?_
          refine SXL.fieldAddr fp_155_0 rfl ?_
          refine SXL.indexA el_153 rfl rfl (by omega) ?_
          refine SXL.load1o 1 sh_3 rfl rfl (intsAtX (i := i) (by omega) (by simp only [hW.len]; omega)) ?_
          refine SXL.move rfl ?_
          refine SXL.fieldAddr fp_155_1 rfl ?_
          refine SXL.indexA el_153 rfl rfl (by omega) ?_
          refine SXL.load1o 1 sh_3 rfl rfl (intsAtX (i := 10 + i) (by omega) (by simp only [hW.len]; omega)) ?_
          refine SXL.gtr rfl rfl ?_
          refine SXL.nil ⟨rfl, rfl, rfl, ?_⟩
          refine SXA.done (by kernel_rfl) ?_
          refine SXL.nil ?_
          refine thenQ.normal ?_
          refine SX.condP rfl (fun c140 => ?_) (fun c140 => ?_)
          · refine SX.seq ?_
            refine SX.region ?_
            refine SXL.loadNo 1 sh_155 rfl rfl (takeAt_full (by simp only [length_ints, hW.len])) ?_
            refine SXL.store 2 sz_155 rfl rfl rfl rfl (by simp only [length_ints, hW.len]) (putAt_all _ _ (by simp only [length_ints, hW.len]; rfl)) ?_ (ints_isOne _)
            refine SXL.assign rfl ?_
            refine SXL.nil ?_
            refine thenQ.normal ?_
            refine SX.ret ?_
            refine blockQ.ret ?_
            refine thenQ.ret ?_
            refine thenQ.ret ?_
            refine blockQ.ret ?_
            refine thenQ.ret ?_
            refine retQ.two (ResAt.cellNo 2 sh_155 rfl rfl (takeAt_full (by simp only [length_ints, hW.len]))) (ResAt.tmp rfl) ?_
            rw [decide_eq_false (p := lvB s L rain) (fun h => absurd (h i (by omega)) (Int.not_le.2 c140))]; rfl
          · refine SX.skip ?_
            refine blockQ.normal ?_
            refine thenQ.normal ?_
            refine SX.region ?_
            refine SXL.move rfl ?_
            refine SXL.add rfl rfl (by omega) ?_
            refine SXL.assign rfl ?_
            refine SXL.nil ?_
            refine thenQ.normal ?_
            refine ⟨i + 1, Meets.mk _ ⟨rfl, trivial⟩ ⟨rfl, rfl, rfl, rfl, trivial⟩ rfl, ?_, (by omega)⟩
            refine ⟨by omega, fun w hw => ?_⟩
            by_cases e : w = i
            · subst e; exact Int.not_lt.1 c140
            · exact hall w (by omega)
        · refine SX.exit ?_
          refine thenQ.exit ?_
          refine thenQ.exit ?_
          refine blockQ.exit ?_
          refine thenQ.normal ?_
          refine SX.seq ?_
          refine SX.region ?_
          refine SXL.loadNo 1 sh_155 rfl rfl (takeAt_full (by simp only [length_ints, hW.len])) ?_
          refine SXL.store 2 sz_155 rfl rfl rfl rfl (by simp only [length_ints, hW.len]) (putAt_all _ _ (by simp only [length_ints, hW.len]; rfl)) ?_ (ints_isOne _)
          refine SXL.assign rfl ?_
          refine SXL.nil ?_
          refine thenQ.normal ?_
          refine SX.ret ?_
          refine retQ.two (ResAt.cellNo 2 sh_155 rfl rfl (takeAt_full (by simp only [length_ints, hW.len]))) (ResAt.tmp rfl) ?_
          rw [decide_eq_true (p := lvB s L rain) (fun w hw => hall w (by omega))]; rfl
end Go.Proofs.YtolcicaclflagaaDoor

/- The walks of functions. -/
namespace Go.Proofs.YtolcicaclflagaaDoor
open Go.X Go.S
theorem rained_any (s : Sp) (bo ro : Option Addr) (bc rc : Nat) (L : List Int) (hL : Bd L) (hv : SpP s) (w : World) (hs : SpAt w s bo ro) :
    CallsR Tryd.prog 110 [.agg ⟨[.int .i64 s.weeks, .int .i64 s.most, .int .i64 s.fall, .int .i64 s.a0, .int .i64 s.a1, .int .i64 s.w0, .int .i64 s.w1, (.slice bo s.book.length bc), (.slice ro s.reads.length rc)]⟩, .agg ⟨ints L⟩] w (RnR (rnsL s L) (lvsL s L (rnsL s L))) := by
  have hH := hv.1
  unfold HeadP at hH
  refine CallsR.of_SX (n := 39) (rs := [.tmp 4, .tmp 5]) Tryd.func110 rfl rfl rfl rfl ?_
  show SX _ _ _ ⟨[(0, .agg ⟨[.int .i64 s.weeks, .int .i64 s.most, .int .i64 s.fall, .int .i64 s.a0, .int .i64 s.a1, .int .i64 s.w0, .int .i64 s.w1, (.slice bo s.book.length bc), (.slice ro s.reads.length rc)]⟩), (1, .agg ⟨ints L⟩)], [], []⟩
  refine SX.seq ?_
  refine SX.region ?_
  refine SXL.box rfl rfl ?_; intro b0
  refine SXL.box rfl rfl ?_; intro b1
  refine SXL.assign rfl ?_
  refine SXL.assign rfl ?_
  refine SXL.nil ?_
  refine thenQ.normal ?_
  refine SX.seq ?_
  refine SX.region ?_
  refine SXL.assign rfl ?_
  refine SXL.nil ?_
  refine thenQ.normal ?_
  refine SX.seq ?_
  refine SX.region ?_
  refine SXL.assign rfl ?_
  refine SXL.nil ?_
  refine thenQ.normal ?_
  refine SX.seq ?_
  refine SX.seq ?_
  refine SX.pad (Sl.nil.ent 3 []) rfl ?_
  refine SX.pad (Sl.nil.ent 155 []) rfl ?_
  refine SX.region ?_
  refine SXL.fieldAddr fp_68_4 rfl ?_
  refine SXL.fieldAddr fp_55_0 rfl ?_
  refine SXL.load1o 0 sh_3 rfl rfl rfl ?_
  refine SXL.assign rfl ?_
  refine SXL.nil ?_
  refine thenQ.normal ?_
  refine SX.block ?_
  refine SX.loopG (α := Nat × Sl × Sl × Nat × Nat × List Value × List Value) [2, 3, 4, 5] rfl (fun ⟨k, r1, r2, n1, n2, c1, c2⟩ => [(8, .int .i64 (s.w0 + (k : Int))), (6, r1.val n1), (7, r2.val n2)]) (fun ⟨k, r1, r2, n1, n2, c1, c2⟩ => [(2, r1.ent 3 c1), (3, r2.ent 155 c2)]) (fun ⟨k, r1, r2, n1, n2, c1, c2⟩ => k ≤ rnN s ∧ r1.Ok n1 1 c1 ∧ c1 = ints (rnsTo s L k) ∧ r2.Ok n2 20 c2 ∧ c2 = (rowsI (lvsL s L (rnsTo s L k))).flatten ∧ n2 = n1) (fun ⟨k, r1, r2, n1, n2, c1, c2⟩ => rnN s - k) (0, Sl.nil, Sl.nil, 0, 0, [], []) ⟨Nat.zero_le _, .none _, rfl, .none _, rfl, rfl⟩ ⟨congrArg (fun z => some (Value.int .i64 z)) (show s.w0 = s.w0 + ((0 : Nat) : Int) by omega), rfl, rfl, trivial⟩ rfl ?_
  rintro ⟨k, r1, r2, n1, n2, c1, c2⟩ ⟨hk, ho1, rfl, ho2, rfl, rfl⟩
  have hlen := rnsTo_len s L k
  have hn1 := Ok.n ho1
  have hN : rnN s = (s.w1 + 1 - s.w0).toNat := rfl
  have hLv := Bd.lv hL hv (s.w0 + (k : Int))
  refine SX.seq ?_
  refine SX.seq ?_
  refine SX.region ?_
  refine SXL.move rfl ?_
  refine SXL.fieldAddr fp_68_4 rfl ?_
  refine SXL.fieldAddr fp_55_1 rfl ?_
  refine SXL.load1o 0 sh_3 rfl rfl rfl ?_
  refine SXL.leq rfl rfl ?_
  refine SXL.nil ?_
  refine thenQ.normal ?_
  refine SX.condP rfl (fun c18 => ?_) (fun c18 => ?_)
  · refine SX.skip ?_
    refine thenQ.normal ?_
    refine SX.seq ?_
    refine SX.block ?_
    refine SX.seq ?_
    refine SX.region ?_
    refine SXL.loadNo 0 sh_68 rfl rfl rfl ?_
    refine SXL.loadNo 1 sh_155 rfl rfl (takeAt_full (by simp only [length_ints, hL.len])) ?_
    refine SXL.move rfl ?_
    refine SXL.call1 (.tuple ⟨[.agg ⟨ints (lvL s L (s.w0 + (k : Int)))⟩, .bool (decide (lvB s L (s.w0 + (k : Int))))]⟩) fn_116 rfl (fun w hI => leaves_any s bo ro _ _ L hL _ hv _ (hs.inv hI)) ?_
    refine SXL.move rfl ?_
    refine SXL.extract rfl rfl ?_
    refine SXL.extract rfl rfl ?_
    refine SXL.alloc zp_155 ?_; intro b4
    refine SXL.store 4 sz_155 rfl rfl rfl rfl (by simp only [length_ints, hLv.len]) (putAt_all _ _ (by simp only [length_ints, hLv.len]; rfl)) ?_ (ints_isOne _)
    refine SXL.assign rfl ?_
    refine SXL.nil ?_
    refine thenQ.normal ?_
    refine SX.seq ?_
    refine SX.region ?_
    refine SXL.move rfl ?_
    refine SXL.nil ?_
    refine thenQ.normal ?_
    refine SX.condP rfl (fun c28 => ?_) (fun c28 => ?_)
    · refine SX.draw 10 (by kernel_rfl) (by kernel_rfl) ⟨[0, 1, 2, 4, 5, 6, 7, 8, 9], [true, true, false, false]⟩ ?_
      refine SXA.takeM 0 2 rfl (by kernel_rfl) rfl ?_
      refine SXL.move rfl ?_
      refine SXL.move rfl ?_
      refine SXL.nil ⟨rfl, rfl, rfl, ?_⟩
      refine SXA.takeM 4 2 rfl (by kernel_rfl) rfl ?_
      refine SXL.move rfl ?_
      refine SXL.loadNo 2 sh_155 rfl rfl (takeAt_full (by simp only [length_ints, hLv.len])) ?_
      refine SXL.nil ⟨rfl, rfl, rfl, ?_⟩
      refine SXA.all [2, 6] (by kernel_rfl) rfl ⟨⟨?_, rfl⟩, ⟨?_, rfl⟩, trivial⟩
      · refine (show SXL _ _ [_] _ _ from ?_)
        refine SXL.buildSlice et_33 zp_3 rfl rfl rfl rfl ?_; intro b5
        refine SXL.nil (stepQ.mk _ rfl rfl ?_)
        refine SXA.all [3, 6] (by kernel_rfl) rfl ⟨⟨?_, rfl⟩, ⟨?_, rfl⟩, trivial⟩
        · refine (show SXL _ _ [_] _ _ from ?_)
          refine SXL.append 2 ap_33 rfl rfl ho1 rfl (.inr ⟨_, _, rfl, Mem.own (i := 5) rfl (takeAt_all _)⟩) rfl rfl ⟨by simp only [maxLen]; omega, by omega⟩ ?_; intro r_32 o_32
          refine SXL.nil (stepQ.mkL _ (by kernel_rfl) rfl rfl ?_)
          refine SXA.all [6] (by kernel_rfl) rfl ⟨⟨?_, rfl⟩, trivial⟩
          refine (show SXL _ _ [_] _ _ from ?_)
          refine SXL.buildSlice et_141 zp_155 rfl rfl rfl (bld_one rfl (by simp only [length_ints, hLv.len])) ?_; intro b6
          refine SXL.nil (stepQ.mk _ rfl rfl ?_)
          refine SXA.all [7] (by kernel_rfl) rfl ⟨⟨?_, rfl⟩, trivial⟩
          refine (show SXL _ _ [_] _ _ from ?_)
          refine SXL.append 3 ap_141 rfl rfl ho2 rfl (.inr ⟨_, _, rfl, Mem.own (i := 6) rfl (takeAt_all _)⟩) (by simp only [length_ints, hLv.len]) (ints_isOne _) ⟨by simp only [maxLen]; omega, by omega⟩ ?_; intro r_36 o_36
          refine SXL.nil (stepQ.mkL _ (by kernel_rfl) rfl rfl ?_)
          refine SXA.takeM 8 2 rfl (by kernel_rfl) rfl ?_
          refine SXL.assign rfl ?_
          refine SXL.assign rfl ?_
          refine SXL.nil ⟨rfl, rfl, rfl, ?_⟩
          refine SXA.done (by kernel_rfl) ?_
          refine SXL.nil ?_
          refine blockQ.normal ?_
          refine thenQ.normal ?_
          refine SX.region ?_
          refine SXL.move rfl ?_
          refine SXL.add rfl rfl (by omega) ?_
          refine SXL.assign rfl ?_
          refine SXL.nil ?_
          refine thenQ.normal ?_
          refine ⟨(k + 1, _, _, _, _, _, _), Meets.mk _ ⟨congrArg (fun z => some (Value.int .i64 z)) (show s.w0 + (k : Int) + 1 = s.w0 + ((k + 1 : Nat) : Int) by omega), rfl, rfl, trivial⟩ ⟨rfl, rfl, rfl, rfl, trivial⟩ rfl, ?_, ?_⟩
          · refine ⟨by omega, ?_⟩
            first
              | exact ⟨o_32, by rw [rnsTo_yes c28]; simp [ints_snoc], o_36, by rw [rnsTo_yes c28]; simp [rowsI, lvsL], rfl⟩
              | exact ⟨ho1, by rw [rnsTo_no c28], ho2, by rw [rnsTo_no c28], rfl⟩
          · show rnN s - (k + 1) < rnN s - k; omega
        · refine (show SXL _ _ [_] _ _ from ?_)
          refine SXL.buildSlice et_141 zp_155 rfl rfl rfl (bld_one rfl (by simp only [length_ints, hLv.len])) ?_; intro b6
          refine SXL.nil (stepQ.mk _ rfl rfl ?_)
          refine SXA.all [3] (by kernel_rfl) rfl ⟨⟨?_, rfl⟩, trivial⟩
          refine (show SXL _ _ [_] _ _ from ?_)
          refine SXL.append 2 ap_33 rfl rfl ho1 rfl (.inr ⟨_, _, rfl, Mem.own (i := 5) rfl (takeAt_all _)⟩) rfl rfl ⟨by simp only [maxLen]; omega, by omega⟩ ?_; intro r_32 o_32
          refine SXL.nil (stepQ.mkL _ (by kernel_rfl) rfl rfl ?_)
          refine SXA.all [7] (by kernel_rfl) rfl ⟨⟨?_, rfl⟩, trivial⟩
          refine (show SXL _ _ [_] _ _ from ?_)
          refine SXL.append 3 ap_141 rfl rfl ho2 rfl (.inr ⟨_, _, rfl, Mem.own (i := 6) rfl (takeAt_all _)⟩) (by simp only [length_ints, hLv.len]) (ints_isOne _) ⟨by simp only [maxLen]; omega, by omega⟩ ?_; intro r_36 o_36
          refine SXL.nil (stepQ.mkL _ (by kernel_rfl) rfl rfl ?_)
          refine SXA.takeM 8 2 rfl (by kernel_rfl) rfl ?_
          refine SXL.assign rfl ?_
          refine SXL.assign rfl ?_
          refine SXL.nil ⟨rfl, rfl, rfl, ?_⟩
          refine SXA.done (by kernel_rfl) ?_
          refine SXL.nil ?_
          refine blockQ.normal ?_
          refine thenQ.normal ?_
          refine SX.region ?_
          refine SXL.move rfl ?_
          refine SXL.add rfl rfl (by omega) ?_
          refine SXL.assign rfl ?_
          refine SXL.nil ?_
          refine thenQ.normal ?_
          refine ⟨(k + 1, _, _, _, _, _, _), Meets.mk _ ⟨congrArg (fun z => some (Value.int .i64 z)) (show s.w0 + (k : Int) + 1 = s.w0 + ((k + 1 : Nat) : Int) by omega), rfl, rfl, trivial⟩ ⟨rfl, rfl, rfl, rfl, trivial⟩ rfl, ?_, ?_⟩
          · refine ⟨by omega, ?_⟩
            first
              | exact ⟨o_32, by rw [rnsTo_yes c28]; simp [ints_snoc], o_36, by rw [rnsTo_yes c28]; simp [rowsI, lvsL], rfl⟩
              | exact ⟨ho1, by rw [rnsTo_no c28], ho2, by rw [rnsTo_no c28], rfl⟩
          · show rnN s - (k + 1) < rnN s - k; omega
      · refine (show SXL _ _ [_] _ _ from ?_)
        refine SXL.buildSlice et_141 zp_155 rfl rfl rfl (bld_one rfl (by simp only [length_ints, hLv.len])) ?_; intro b5
        refine SXL.nil (stepQ.mk _ rfl rfl ?_)
        refine SXA.all [2] (by kernel_rfl) rfl ⟨⟨?_, rfl⟩, trivial⟩
        refine (show SXL _ _ [_] _ _ from ?_)
        refine SXL.buildSlice et_33 zp_3 rfl rfl rfl rfl ?_; intro b6
        refine SXL.nil (stepQ.mk _ rfl rfl ?_)
        refine SXA.all [3] (by kernel_rfl) rfl ⟨⟨?_, rfl⟩, trivial⟩
        refine (show SXL _ _ [_] _ _ from ?_)
        refine SXL.append 2 ap_33 rfl rfl ho1 rfl (.inr ⟨_, _, rfl, Mem.own (i := 6) rfl (takeAt_all _)⟩) rfl rfl ⟨by simp only [maxLen]; omega, by omega⟩ ?_; intro r_32 o_32
        refine SXL.nil (stepQ.mkL _ (by kernel_rfl) rfl rfl ?_)
        refine SXA.all [7] (by kernel_rfl) rfl ⟨⟨?_, rfl⟩, trivial⟩
        refine (show SXL _ _ [_] _ _ from ?_)
        refine SXL.append 3 ap_141 rfl rfl ho2 rfl (.inr ⟨_, _, rfl, Mem.own (i := 5) rfl (takeAt_all _)⟩) (by simp only [length_ints, hLv.len]) (ints_isOne _) ⟨by simp only [maxLen]; omega, by omega⟩ ?_; intro r_36 o_36
        refine SXL.nil (stepQ.mkL _ (by kernel_rfl) rfl rfl ?_)
        refine SXA.takeM 8 2 rfl (by kernel_rfl) rfl ?_
        refine SXL.assign rfl ?_
        refine SXL.assign rfl ?_
        refine SXL.nil ⟨rfl, rfl, rfl, ?_⟩
        refine SXA.done (by kernel_rfl) ?_
        refine SXL.nil ?_
        refine blockQ.normal ?_
        refine thenQ.normal ?_
        refine SX.region ?_
        refine SXL.move rfl ?_
        refine SXL.add rfl rfl (by omega) ?_
        refine SXL.assign rfl ?_
        refine SXL.nil ?_
        refine thenQ.normal ?_
        refine ⟨(k + 1, _, _, _, _, _, _), Meets.mk _ ⟨congrArg (fun z => some (Value.int .i64 z)) (show s.w0 + (k : Int) + 1 = s.w0 + ((k + 1 : Nat) : Int) by omega), rfl, rfl, trivial⟩ ⟨rfl, rfl, rfl, rfl, trivial⟩ rfl, ?_, ?_⟩
        · refine ⟨by omega, ?_⟩
          first
            | exact ⟨o_32, by rw [rnsTo_yes c28]; simp [ints_snoc], o_36, by rw [rnsTo_yes c28]; simp [rowsI, lvsL], rfl⟩
            | exact ⟨ho1, by rw [rnsTo_no c28], ho2, by rw [rnsTo_no c28], rfl⟩
        · show rnN s - (k + 1) < rnN s - k; omega
    · refine SX.skip ?_
      refine blockQ.normal ?_
      refine thenQ.normal ?_
      refine SX.region ?_
      refine SXL.move rfl ?_
      refine SXL.add rfl rfl (by omega) ?_
      refine SXL.assign rfl ?_
      refine SXL.nil ?_
      refine thenQ.normal ?_
      refine ⟨(k + 1, _, _, _, _, _, _), Meets.mk _ ⟨congrArg (fun z => some (Value.int .i64 z)) (show s.w0 + (k : Int) + 1 = s.w0 + ((k + 1 : Nat) : Int) by omega), rfl, rfl, trivial⟩ ⟨rfl, rfl, rfl, rfl, trivial⟩ rfl, ?_, ?_⟩
      · refine ⟨by omega, ?_⟩
        first
          | exact ⟨o_32, by rw [rnsTo_yes c28]; simp [ints_snoc], o_36, by rw [rnsTo_yes c28]; simp [rowsI, lvsL], rfl⟩
          | exact ⟨ho1, by rw [rnsTo_no c28], ho2, by rw [rnsTo_no c28], rfl⟩
      · show rnN s - (k + 1) < rnN s - k; omega
  · refine SX.exit ?_
    refine thenQ.exit ?_
    refine thenQ.exit ?_
    refine blockQ.exit ?_
    refine thenQ.normal ?_
    refine SX.seq ?_
    have hkN : k = rnN s := by omega
    subst hkN
    refine SX.region ?_
    refine SXL.move rfl ?_
    refine SXL.move rfl ?_
    refine SXL.assign rfl ?_
    refine SXL.assign rfl ?_
    refine SXL.nil ?_
    refine thenQ.normal ?_
    refine SX.ret ?_
    refine retQ.sel [2, 3] rfl rfl ?_
    refine retQ.two (ResAt.tmp rfl) (ResAt.tmp rfl) ?_
    refine ⟨r1, r2, ?_⟩; have e2 := Ok.n ho1; subst e2; exact ⟨ho1, by simpa [lvsL, rnsL] using ho2, by simp [lvsL, rnsL], rfl⟩
end Go.Proofs.YtolcicaclflagaaDoor

/- The walks of functions. -/
namespace Go.Proofs.YtolcicaclflagaaDoor
open Go.X Go.S
theorem hull_any (A : List (List Int)) (hA : ∀ x ∈ A, x.length = 20) (hne : 0 < A.length) (hmx : A.length ≤ 21) (week : Nat) (hw : week < 10) (ao : Option Addr) (c : Nat) (w : World) (h : RowsAt w ao 20 (rowsI A)) :
    CallsR Tryd.prog 106 [.slice ao A.length c, .int .i64 ((week : Int))] w (fun v _ => v = .agg ⟨[.int .i64 ((hLo A week)), .int .i64 ((hHi A week))]⟩) := by
  refine CallsR.of_SX (n := 44) (rs := [.cell 4 55]) Tryd.func106 rfl rfl rfl rfl ?_
  show SX _ _ _ ⟨[(0, .slice ao A.length c), (1, .int .i64 ((week : Int)))], [], []⟩
  refine SX.seq ?_
  refine SX.region ?_
  refine SXL.alloc zp_55 ?_; intro b0
  refine SXL.nil ?_
  refine thenQ.normal ?_
  refine SX.seq ?_
  obtain ⟨b, o, ha, hm⟩ := rowI h hne
  have hl := len20 hA hne
  refine SX.draw 14 (by kernel_rfl) (by kernel_rfl) {} ?_
  refine SXA.take 0 13 rfl (by kernel_rfl) rfl ?_
  refine SXL.move rfl ?_
  refine SXL.move rfl ?_
  refine SXL.indexR el_141 rfl rfl ha (by omega) ?_
  refine SXL.fieldAddr fp_155_0 rfl ?_
  refine SXL.indexA el_153 rfl rfl (by omega) ?_
  refine SXL.load1 sh_3 rfl (Mem.at (hm _) (intsAtX (i := week) rfl (by omega)) (by simp <;> omega)) ?_
  refine SXL.move rfl ?_
  refine SXL.move rfl ?_
  refine SXL.indexR el_141 rfl rfl ha (by omega) ?_
  refine SXL.fieldAddr fp_155_1 rfl ?_
  refine SXL.indexA el_153 rfl rfl (by omega) ?_
  refine SXL.load1 sh_3 rfl (Mem.at (hm _) (intsAtX (i := 10 + week) rfl (by omega)) (by simp <;> omega)) ?_
  refine SXL.buildS pl_55 zp_55 rfl rfl ?_
  refine SXL.nil ⟨rfl, rfl, rfl, ?_⟩
  refine SXA.all [13] (by kernel_rfl) rfl ⟨⟨?_, rfl⟩, trivial⟩
  refine (show SXL _ _ [_] _ _ from ?_)
  refine SXL.alloc zp_55 ?_; intro b1
  refine SXL.nil (stepQ.mk _ rfl rfl ?_)
  refine SXA.done (by kernel_rfl) ?_
  refine SXL.store 1 sz_55 rfl rfl rfl rfl rfl rfl ?_
  refine SXL.nil ?_
  refine thenQ.normal ?_
  refine SX.seq ?_
  refine SX.seq ?_
  refine SX.region ?_
  refine SXL.move rfl ?_
  refine SXL.len is_141 rfl ?_
  refine SXL.move rfl ?_
  refine SXL.nil ?_
  refine thenQ.normal ?_
  refine SX.block ?_
  refine SX.loopG (α := Nat) [1, 4, 5, 21, 22] rfl (fun k => [(23, .int .i64 ((k : Int)))]) (fun k => [(1, (b1, .cells ⟨[.int .i64 (hLoTo A week k), .int .i64 (hHiTo A week k)]⟩ 55 (0, 0)))]) (fun k => k ≤ A.length) (fun k => A.length - k) 0 (Nat.zero_le _) ⟨rfl, trivial⟩ rfl ?_
  rintro k hk
  refine SX.seq ?_
  refine SX.region ?_
  refine SXL.lss rfl rfl ?_
  refine SXL.nil ?_
  refine thenQ.normal ?_
  refine SX.seq ?_
  refine SX.condP rfl (fun c1 => ?_) (fun c1 => ?_)
  · refine SX.skip ?_
    refine thenQ.normal ?_
    refine SX.seq ?_
    refine SX.block ?_
    refine SX.seq ?_
    obtain ⟨b2, o2, ha2, hm2⟩ := rowI h (i := k) (by omega)
    have hl2 := len20 hA (i := k) (by omega)
    refine SX.region ?_
    refine SXL.indexR el_141 rfl rfl ha2 (by omega) ?_
    refine SXL.loadN sh_155 rfl (hm2 _) (by simp only [length_ints, hl2]) ?_
    refine SXL.alloc zp_155 ?_; intro b2
    refine SXL.store 2 sz_155 rfl rfl rfl rfl (by simp only [length_ints, hl2]) (putAt_all _ _ (by simp only [length_ints, hl2]; rfl)) ?_ (ints_isOne _)
    refine SXL.nil ?_
    refine thenQ.normal ?_
    refine SX.draw 15 (by kernel_rfl) (by kernel_rfl) {} ?_
    refine SXA.take 0 15 rfl (by kernel_rfl) rfl ?_
    refine SXL.fieldAddr fp_55_0 rfl ?_
    refine SXL.load1o 1 sh_3 rfl rfl rfl ?_
    refine SXL.move rfl ?_
    refine SXL.fieldAddr fp_155_0 rfl ?_
    refine SXL.indexA el_153 rfl rfl (by omega) ?_
    refine SXL.load1o 2 sh_3 rfl rfl (intsAtX (i := week) (by simp <;> omega) (by omega)) ?_
    refine SXL.min rfl rfl ?_
    refine SXL.fieldAddr fp_55_1 rfl ?_
    refine SXL.load1o 1 sh_3 rfl rfl rfl ?_
    refine SXL.move rfl ?_
    refine SXL.fieldAddr fp_155_1 rfl ?_
    refine SXL.indexA el_153 rfl rfl (by omega) ?_
    refine SXL.load1o 2 sh_3 rfl rfl (intsAtX (i := 10 + week) (by simp <;> omega) (by omega)) ?_
    refine SXL.max rfl rfl ?_
    refine SXL.buildS pl_55 zp_55 rfl rfl ?_
    refine SXL.nil ⟨rfl, rfl, rfl, ?_⟩
    refine SXA.done (by kernel_rfl) ?_
    refine SXL.store 1 sz_55 rfl rfl rfl rfl rfl rfl ?_
    refine SXL.nil ?_
    refine blockQ.normal ?_
    refine thenQ.normal ?_
    refine SX.region ?_
    refine SXL.add rfl rfl (by omega) ?_
    refine SXL.move rfl ?_
    refine SXL.nil ?_
    refine thenQ.normal ?_
    refine ⟨k + 1, Meets.mk _ ⟨rfl, trivial⟩ ⟨rfl, rfl, rfl, rfl, rfl, trivial⟩ rfl, (by omega), (by omega)⟩
  · refine SX.exit ?_
    refine thenQ.exit ?_
    refine thenQ.exit ?_
    refine blockQ.exit ?_
    refine thenQ.normal ?_
    refine SX.seq ?_
    obtain rfl : k = A.length := by omega
    refine SX.region ?_
    refine SXL.loadNo 1 sh_55 rfl rfl rfl ?_
    refine SXL.store 0 sz_55 rfl rfl rfl rfl rfl rfl ?_
    refine SXL.nil ?_
    refine thenQ.normal ?_
    refine SX.ret ?_
    refine retQ.one (ResAt.cellNo 0 sh_55 rfl rfl rfl) ?_
    first | rfl | assumption
theorem rains_any (s : Sp) (bo ro : Option Addr) (bc rc : Nat) (hv : SpP s) (w : World) (hs : SpAt w s bo ro) :
    CallsR Tryd.prog 107 [.agg ⟨[.int .i64 s.weeks, .int .i64 s.most, .int .i64 s.fall, .int .i64 s.a0, .int .i64 s.a1, .int .i64 s.w0, .int .i64 s.w1, (.slice bo s.book.length bc), (.slice ro s.reads.length rc)]⟩] w (RnR (rnsL s (baseL s)) (lvsL s (baseL s) (rnsL s (baseL s)))) := by
  refine CallsR.of_SX (n := 10) (rs := [.tmp 2, .tmp 3]) Tryd.func107 rfl rfl rfl rfl ?_
  show SX _ _ _ ⟨[(0, .agg ⟨[.int .i64 s.weeks, .int .i64 s.most, .int .i64 s.fall, .int .i64 s.a0, .int .i64 s.a1, .int .i64 s.w0, .int .i64 s.w1, (.slice bo s.book.length bc), (.slice ro s.reads.length rc)]⟩)], [], []⟩
  refine SX.seq ?_
  refine SX.region ?_
  refine SXL.box rfl rfl ?_; intro b0
  refine SXL.assign rfl ?_
  refine SXL.assign rfl ?_
  refine SXL.nil ?_
  refine thenQ.normal ?_
  refine SX.seq ?_
  refine SX.draw 8 (by kernel_rfl) (by kernel_rfl) {} ?_
  refine SXA.take 0 3 rfl (by kernel_rfl) rfl ?_
  refine SXL.loadNo 0 sh_68 rfl rfl rfl ?_
  refine SXL.loadNo 0 sh_68 rfl rfl rfl ?_
  refine SXL.call1 (.agg ⟨ints (baseL s)⟩) fn_111 rfl (fun w hI => base_any s bo ro _ _ hv _ (hs.inv hI)) ?_
  refine SXL.nil ⟨rfl, rfl, rfl, ?_⟩
  refine SXA.all [3] (by kernel_rfl) rfl ⟨⟨?_, rfl⟩, trivial⟩
  refine (show SXL _ _ [_] _ _ from ?_)
  refine SXL.callF (RnR (rnsL s (baseL s)) (lvsL s (baseL s) (rnsL s (baseL s)))) fn_110 rfl (fun w hI => rained_any s bo ro _ _ _ (baseL_Bd hv) hv _ (hs.inv hI)) ?_; rintro _ _ ⟨r1, r2, o1, o2, rfl, rfl⟩
  refine SXL.nil (stepQ.mk _ rfl rfl ?_)
  refine SXA.take 4 4 rfl (by kernel_rfl) rfl ?_
  refine SXL.extract rfl rfl ?_
  refine SXL.extract rfl rfl ?_
  refine SXL.assign rfl ?_
  refine SXL.assign rfl ?_
  refine SXL.nil ⟨rfl, rfl, rfl, ?_⟩
  refine SXA.done (by kernel_rfl) ?_
  refine SXL.nil ?_
  refine thenQ.normal ?_
  refine SX.ret ?_
  refine retQ.sel [1, 2] rfl rfl ?_
  refine retQ.two (ResAt.tmp rfl) (ResAt.tmp rfl) ?_
  exact ⟨r1, r2, o1, o2, rfl, rfl⟩
theorem true_any (s : Sp) (bo ro : Option Addr) (bc rc : Nat) (hv : SpP s) (w : World) (hs : SpAt w s bo ro) :
    CallsR Tryd.prog 93 [.agg ⟨[.int .i64 s.weeks, .int .i64 s.most, .int .i64 s.fall, .int .i64 s.a0, .int .i64 s.a1, .int .i64 s.w0, .int .i64 s.w1, (.slice bo s.book.length bc), (.slice ro s.reads.length rc)]⟩] w (fun v _ => v = .bool (decide (TrueP s))) := by
  refine CallsR.of_SX (n := 13) (rs := [.tmp 2]) Tryd.func93 rfl rfl rfl rfl ?_
  show SX _ _ _ ⟨[(0, .agg ⟨[.int .i64 s.weeks, .int .i64 s.most, .int .i64 s.fall, .int .i64 s.a0, .int .i64 s.a1, .int .i64 s.w0, .int .i64 s.w1, (.slice bo s.book.length bc), (.slice ro s.reads.length rc)]⟩)], [], []⟩
  refine SX.seq ?_
  refine SX.region ?_
  refine SXL.box rfl rfl ?_; intro b0
  refine SXL.assign rfl ?_
  refine SXL.nil ?_
  refine thenQ.normal ?_
  refine SX.seq ?_
  refine SX.region ?_
  refine SXL.loadNo 0 sh_68 rfl rfl rfl ?_
  refine SXL.callF (RnR (rnsL s (baseL s)) (lvsL s (baseL s) (rnsL s (baseL s)))) fn_107 rfl (fun w hI => rains_any s bo ro _ _ hv _ (hs.inv hI)) ?_; rintro _ _ ⟨r1, r2, o1, o2, rfl, rfl⟩
  refine SXL.move rfl ?_
  refine SXL.extract rfl rfl ?_
  refine SXL.extract rfl rfl ?_
  refine SXL.assign rfl ?_
  refine SXL.assign rfl ?_
  refine SXL.nil ?_
  refine thenQ.normal ?_
  refine SX.seq ?_
  refine SX.region ?_
  refine SXL.move rfl ?_
  refine SXL.len is_33 rfl ?_
  refine SXL.gtr rfl rfl ?_
  refine SXL.assign rfl ?_
  refine SXL.nil ?_
  refine thenQ.normal ?_
  refine SX.ret ?_
  refine retQ.one (ResAt.tmp rfl) ?_
  exact congrArg Value.bool (decide_eq_decide.2 (len_pos_iff _))
theorem told_any (s : Sp) (bo ro : Option Addr) (bc rc : Nat) (week : Int) (w : World) (hs : SpAt w s bo ro) :
    CallsR Tryd.prog 105 [.agg ⟨[.int .i64 s.weeks, .int .i64 s.most, .int .i64 s.fall, .int .i64 s.a0, .int .i64 s.a1, .int .i64 s.w0, .int .i64 s.w1, (.slice bo s.book.length bc), (.slice ro s.reads.length rc)]⟩, .int .i64 week] w (RnR3 (toldL s week) (toldA s week) (toldE s week)) := by
  refine CallsR.of_SX (n := 28) (rs := [.tmp 4, .tmp 5, .tmp 6]) Tryd.func105 rfl rfl rfl rfl ?_
  show SX _ _ _ ⟨[(0, .agg ⟨[.int .i64 s.weeks, .int .i64 s.most, .int .i64 s.fall, .int .i64 s.a0, .int .i64 s.a1, .int .i64 s.w0, .int .i64 s.w1, (.slice bo s.book.length bc), (.slice ro s.reads.length rc)]⟩), (1, .int .i64 week)], [], []⟩
  refine SX.seq ?_
  refine SX.region ?_
  refine SXL.box rfl rfl ?_; intro b0
  refine SXL.assign rfl ?_
  refine SXL.assign rfl ?_
  refine SXL.assign rfl ?_
  refine SXL.nil ?_
  refine thenQ.normal ?_
  refine SX.seq ?_
  refine SX.seq ?_
  refine SX.region ?_
  refine SXL.loadNo 0 sh_68 rfl rfl rfl ?_
  refine SXL.call1 (.bool (decide (SpP s))) fn_87 rfl (fun w hI => spring_any s bo ro _ _ _ (hs.inv hI)) ?_
  refine SXL.not rfl ?_
  refine SXL.nil ?_
  refine thenQ.normal ?_
  refine SX.condP rfl (fun c11 => ?_) (fun c11 => ?_)
  · refine SX.seq ?_
    refine SX.region ?_
    refine SXL.assign rfl ?_
    refine SXL.assign rfl ?_
    refine SXL.assign rfl ?_
    refine SXL.nil ?_
    refine thenQ.normal ?_
    refine SX.ret ?_
    refine thenQ.ret ?_
    refine retQ.dead [Sl.nil.ent 3 [], Sl.nil.ent 155 []] rfl ?_
    refine retQ.three (ResAt.tmp rfl) (ResAt.tmp rfl) (ResAt.tmp rfl) ?_
    exact RnR3.errs (toldE_bad c11) (by omega)
  · refine SX.skip ?_
    refine thenQ.normal ?_
    refine SX.seq ?_
    refine SX.seq ?_
    have hv := Decidable.not_not.1 c11
    have hH := hv.1
    unfold HeadP at hH
    refine SX.region ?_
    refine SXL.move rfl ?_
    refine SXL.fieldAddr fp_68_0 rfl ?_
    refine SXL.load1o 0 sh_3 rfl rfl rfl ?_
    refine SXL.sub rfl rfl (by omega) ?_
    refine SXL.call1 (.bool (decide (Wi week 0 (s.weeks - 1)))) fn_101 rfl (fun w hI => within_any _ _ _ _) ?_
    refine SXL.not rfl ?_
    refine SXL.nil ?_
    refine thenQ.normal ?_
    refine SX.condP rfl (fun c17 => ?_) (fun c17 => ?_)
    · refine SX.seq ?_
      refine SX.region ?_
      refine SXL.assign rfl ?_
      refine SXL.assign rfl ?_
      refine SXL.assign rfl ?_
      refine SXL.nil ?_
      refine thenQ.normal ?_
      refine SX.ret ?_
      refine thenQ.ret ?_
      refine retQ.dead [Sl.nil.ent 3 [], Sl.nil.ent 155 []] rfl ?_
      refine retQ.three (ResAt.tmp rfl) (ResAt.tmp rfl) (ResAt.tmp rfl) ?_
      exact RnR3.errs (toldE_week hv c17) (by omega)
    · refine SX.skip ?_
      refine thenQ.normal ?_
      refine SX.seq ?_
      have hwk := Decidable.not_not.1 c17
      refine SX.region ?_
      refine SXL.loadNo 0 sh_68 rfl rfl rfl ?_
      refine SXL.callF (RnR (rnsL s (baseL s)) (lvsL s (baseL s) (rnsL s (baseL s)))) fn_107 rfl (fun w hI => rains_any s bo ro _ _ hv _ (hs.inv hI)) ?_; rintro _ _ ⟨r1, r2, o1, o2, rfl, rfl⟩
      refine SXL.move rfl ?_
      refine SXL.extract rfl rfl ?_
      refine SXL.extract rfl rfl ?_
      refine SXL.assign rfl ?_
      refine SXL.assign rfl ?_
      refine SXL.nil ?_
      refine thenQ.normal ?_
      refine SX.seq ?_
      refine SX.seq ?_
      refine SX.region ?_
      refine SXL.move rfl ?_
      refine SXL.len is_33 rfl ?_
      refine SXL.eqlI rfl rfl ?_
      refine SXL.nil ?_
      refine thenQ.normal ?_
      refine SX.condP rfl (fun c25 => ?_) (fun c25 => ?_)
      · refine SX.seq ?_
        refine SX.region ?_
        refine SXL.assign rfl ?_
        refine SXL.assign rfl ?_
        refine SXL.assign rfl ?_
        refine SXL.nil ?_
        refine thenQ.normal ?_
        refine SX.ret ?_
        refine thenQ.ret ?_
        refine retQ.dead [Sl.nil.ent 3 [], Sl.nil.ent 155 []] rfl ?_
        refine retQ.three (ResAt.tmp rfl) (ResAt.tmp rfl) (ResAt.tmp rfl) ?_
        exact RnR3.errs (toldE_none hv hwk (List.eq_nil_of_length_eq_zero (by omega))) (by omega)
      · refine SX.skip ?_
        refine thenQ.normal ?_
        refine SX.seq ?_
        refine SX.region ?_
        refine SXL.move rfl ?_
        refine SXL.move rfl ?_
        refine SXL.assign rfl ?_
        refine SXL.assign rfl ?_
        refine SXL.assign rfl ?_
        refine SXL.nil ?_
        refine thenQ.normal ?_
        refine SX.ret ?_
        refine retQ.sel [1, 2] rfl rfl ?_
        refine retQ.three (ResAt.tmp rfl) (ResAt.tmp rfl) (ResAt.tmp rfl) ?_
        have he := toldE_ok hv hwk (fun h => c25 (by rw [h]; rfl)); have hl := toldL_ok he; exact ⟨r1, r2, by rw [hl]; exact o1, by rw [toldA, hl]; exact o2, by rw [he, toldA, hl], by rw [toldA, hl]⟩
theorem gives_any (s : Sp) (bo ro : Option Addr) (bc rc : Nat) (week : Int) (w : World) (hs : SpAt w s bo ro) :
    CallsR Tryd.prog 89 [.agg ⟨[.int .i64 s.weeks, .int .i64 s.most, .int .i64 s.fall, .int .i64 s.a0, .int .i64 s.a1, .int .i64 s.w0, .int .i64 s.w1, (.slice bo s.book.length bc), (.slice ro s.reads.length rc)]⟩, .int .i64 week] w (fun v _ => v = .tuple ⟨[.agg ⟨[.int .i64 ((givesLo s week)), .int .i64 ((givesHi s week))]⟩, .int .i64 (toldE s week)]⟩) := by
  refine CallsR.of_SX (n := 23) (rs := [.cell 4 55, .tmp 5]) Tryd.func89 rfl rfl rfl rfl ?_
  show SX _ _ _ ⟨[(0, .agg ⟨[.int .i64 s.weeks, .int .i64 s.most, .int .i64 s.fall, .int .i64 s.a0, .int .i64 s.a1, .int .i64 s.w0, .int .i64 s.w1, (.slice bo s.book.length bc), (.slice ro s.reads.length rc)]⟩), (1, .int .i64 week)], [], []⟩
  refine SX.seq ?_
  refine SX.region ?_
  refine SXL.box rfl rfl ?_; intro b0
  refine SXL.alloc zp_55 ?_; intro b1
  refine SXL.assign rfl ?_
  refine SXL.nil ?_
  refine thenQ.normal ?_
  refine SX.seq ?_
  refine SX.region ?_
  refine SXL.loadNo 0 sh_68 rfl rfl rfl ?_
  refine SXL.move rfl ?_
  refine SXL.callF (RnR3 (toldL s week) (toldA s week) (toldE s week)) fn_105 rfl (fun w hI => told_any s bo ro _ _ _ _ (hs.inv hI)) ?_; rintro _ _ ⟨r1, r2, o1, o2, rfl, rfl⟩
  refine SXL.move rfl ?_
  refine SXL.extract rfl rfl ?_
  refine SXL.extract rfl rfl ?_
  refine SXL.extract rfl rfl ?_
  refine SXL.assign rfl ?_
  refine SXL.assign rfl ?_
  refine SXL.assign rfl ?_
  refine SXL.nil ?_
  refine thenQ.normal ?_
  refine SX.seq ?_
  refine SX.seq ?_
  refine SX.region ?_
  refine SXL.move rfl ?_
  refine SXL.neqI rfl rfl ?_
  refine SXL.nil ?_
  refine thenQ.normal ?_
  refine SX.condP rfl (fun c17 => ?_) (fun c17 => ?_)
  · refine SX.seq ?_
    refine SX.region ?_
    refine SXL.buildS pl_55 zp_55 rfl rfl ?_
    refine SXL.move rfl ?_
    refine SXL.store 1 sz_55 rfl rfl rfl rfl rfl rfl ?_
    refine SXL.assign rfl ?_
    refine SXL.nil ?_
    refine thenQ.normal ?_
    refine SX.ret ?_
    refine thenQ.ret ?_
    refine retQ.two (ResAt.cellNo 1 sh_55 rfl rfl rfl) (ResAt.tmp rfl) ?_
    rw [givesLo, givesHi, if_neg c17, if_neg c17]
  · refine SX.skip ?_
    refine thenQ.normal ?_
    refine SX.seq ?_
    refine SX.region ?_
    refine SXL.move rfl ?_
    refine SXL.move rfl ?_
    have he := Decidable.not_not.1 c17
    obtain ⟨hv, hwk, hne⟩ := toldE_valid he
    have hA0 : 0 < (toldA s week).length := by rw [toldA, toldL_ok he, lvsL, List.length_map]; exact List.length_pos_iff.2 hne
    obtain ⟨wk, rfl⟩ := Int.eq_ofNat_of_zero_le hwk.1
    have hH := hv.1
    unfold HeadP at hH
    refine SXL.call1 (.agg ⟨[.int .i64 ((hLo (toldA s wk) wk)), .int .i64 ((hHi (toldA s wk) wk))]⟩) fn_106 rfl (fun w hI => hull_any _ (toldA_len _) hA0 (toldA_max he) wk (by omega) _ _ _ (slRows (i := 3) hI (toldA_len _) o2 rfl)) ?_
    refine SXL.store 1 sz_55 rfl rfl rfl rfl rfl rfl ?_
    refine SXL.assign rfl ?_
    refine SXL.nil ?_
    refine thenQ.normal ?_
    refine SX.ret ?_
    refine retQ.two (ResAt.cellNo 1 sh_55 rfl rfl rfl) (ResAt.tmp rfl) ?_
    rw [givesLo, givesHi, if_pos he, if_pos he, he]; rfl
end Go.Proofs.YtolcicaclflagaaDoor

/- The walks of the reference of layer 9: supplies. -/
namespace Go.Proofs.YtolcicaclflagaaDoor
open Go.X Go.S Go.T Go.RowKit
theorem within9_any (n lo hi : Int) (w : World) :
    CallsR Tryd.prog 62 [.int .i64 n, .int .i64 lo, .int .i64 hi] w (fun v _ => v = .bool (decide (Wi n lo hi))) := by
  refine CallsR.of_SX (n := 15) (rs := [.tmp 6]) Tryd.func62 rfl rfl rfl rfl ?_
  show SX _ _ _ ⟨[(0, .int .i64 n), (1, .int .i64 lo), (2, .int .i64 hi)], [], []⟩
  refine SX.seq ?_
  refine SX.region ?_
  refine SXL.assign rfl ?_
  refine SXL.nil ?_
  refine thenQ.normal ?_
  refine SX.seq ?_
  refine SX.region ?_
  refine SXL.move rfl ?_
  refine SXL.move rfl ?_
  refine SXL.geq rfl rfl ?_
  refine SXL.move rfl ?_
  apply SXL.andG 3
  case hl => exact rfl
  case hd => exact rfl
  case hg => exact rfl
  case ht =>
    intro g1
    refine SXL.move rfl ?_
    refine SXL.move rfl ?_
    refine SXL.leq rfl rfl ?_
    exact SXL.nil (segQ.mk (.skip rfl (.skip rfl (.skip rfl (.skip rfl (EnvSub.refl _))))) rfl rfl ⟨rfl, rfl⟩)
  case hf =>
    intro g1
    refine SXL.pass rfl rfl rfl ?_
    refine SXL.pass rfl rfl rfl ?_
    refine SXL.pass rfl rfl rfl ?_
    exact SXL.nil (segQ.mk (.skip rfl (.skip rfl (.skip rfl (.skip rfl (EnvSub.refl _))))) rfl rfl rfl)
  refine SXL.assign rfl ?_
  refine SXL.nil ?_
  refine thenQ.normal ?_
  refine SX.ret ?_
  refine retQ.one (ResAt.tmp rfl) ?_
  first | rfl | assumption
theorem rfount_any (u : Su) (fo so : Option Addr) (fc sc : Nat) (fa : Nat → FA) (sa : Nat → DA) (id : Int) (hl : LitP u) (w : World) (hs : SuAt w u fo so fa sa) :
    CallsR Tryd.prog 65 [.agg ⟨[.slice fo u.founts.length fc, .slice so u.streets.length sc]⟩, .int .i64 id] w (fun v _ => v = .int .i64 (fountI u id)) := by
  have hL0 := hl.1
  have hL1 := hl.2.1
  have hL2 := hl.2.2
  refine CallsR.of_SX (n := 22) (rs := [.tmp 4]) Tryd.func65 rfl rfl rfl rfl ?_
  show SX _ _ _ ⟨[(0, .agg ⟨[.slice fo u.founts.length fc, .slice so u.streets.length sc]⟩), (1, .int .i64 id)], [], []⟩
  refine SX.seq ?_
  refine SX.region ?_
  refine SXL.box rfl rfl ?_; intro b0
  refine SXL.assign rfl ?_
  refine SXL.nil ?_
  refine thenQ.normal ?_
  refine SX.seq ?_
  refine SX.seq ?_
  refine SX.region ?_
  refine SXL.assign rfl ?_
  refine SXL.nil ?_
  refine thenQ.normal ?_
  refine SX.block ?_
  refine SX.loopG (α := Nat) [1, 2, 4] rfl (fun k => [(5, .int .i64 ((k : Int)))]) (fun k => []) (fun k => k ≤ u.founts.length ∧ ∀ i, i < k → ¬(u.founts.getD i default).id = id) (fun k => u.founts.length - k) 0 ⟨Nat.zero_le _, fun _ h => absurd h (Nat.not_lt_zero _)⟩ ⟨rfl, trivial⟩ rfl ?_
  rintro k ⟨hk, hall⟩
  refine SX.seq ?_
  refine SX.seq ?_
  refine SX.region ?_
  refine SXL.move rfl ?_
  refine SXL.fieldAddr fp_25_0 rfl ?_
  refine SXL.load1o 0 sh_22 rfl rfl rfl ?_
  refine SXL.len is_22 rfl ?_
  refine SXL.lss rfl rfl ?_
  refine SXL.nil ?_
  refine thenQ.normal ?_
  refine SX.condP rfl (fun c10 => ?_) (fun c10 => ?_)
  · refine SX.skip ?_
    refine thenQ.normal ?_
    refine SX.seq ?_
    refine SX.block ?_
    refine SX.seq ?_
    obtain ⟨b, o, ha, hm⟩ := hs.fount (i := k) (by omega)
    refine SX.region ?_
    refine SXL.fieldAddr fp_25_0 rfl ?_
    refine SXL.load1o 0 sh_22 rfl rfl rfl ?_
    refine SXL.move rfl ?_
    refine SXL.indexR el_22 rfl rfl ha (by omega) ?_
    refine SXL.fieldAddr fp_70_0 rfl ?_
    refine SXL.load1 sh_3 rfl ((hm _).sub (j := 0) (k := 1) rfl) ?_
    refine SXL.move rfl ?_
    refine SXL.eqlI rfl rfl ?_
    refine SXL.nil ?_
    refine thenQ.normal ?_
    refine SX.condP rfl (fun c20 => ?_) (fun c20 => ?_)
    · refine SX.seq ?_
      refine SX.region ?_
      refine SXL.move rfl ?_
      refine SXL.assign rfl ?_
      refine SXL.nil ?_
      refine thenQ.normal ?_
      refine SX.ret ?_
      refine blockQ.ret ?_
      refine thenQ.ret ?_
      refine thenQ.ret ?_
      refine blockQ.ret ?_
      refine thenQ.ret ?_
      refine retQ.one (ResAt.tmp rfl) ?_
      exact congrArg (Value.int .i64) (idxF_some (by omega) c20 hall).symm
    · refine SX.skip ?_
      refine blockQ.normal ?_
      refine thenQ.normal ?_
      refine SX.region ?_
      refine SXL.move rfl ?_
      refine SXL.add rfl rfl (by omega) ?_
      refine SXL.assign rfl ?_
      refine SXL.nil ?_
      refine thenQ.normal ?_
      refine ⟨k + 1, Meets.mk _ ⟨rfl, trivial⟩ ⟨rfl, rfl, rfl, trivial⟩ rfl, ?_, (by omega)⟩
      refine ⟨by omega, fun i hi => ?_⟩
      by_cases e : i = k
      · subst e; exact c20
      · exact hall i (by omega)
  · refine SX.exit ?_
    refine thenQ.exit ?_
    refine thenQ.exit ?_
    refine blockQ.exit ?_
    refine thenQ.normal ?_
    refine SX.seq ?_
    refine SX.region ?_
    refine SXL.assign rfl ?_
    refine SXL.nil ?_
    refine thenQ.normal ?_
    refine SX.ret ?_
    refine retQ.one (ResAt.tmp rfl) ?_
    exact congrArg (Value.int .i64) (idxF_none fun i hi => hall i (by omega)).symm
set_option maxHeartbeats 1000000 in
theorem supply_any (u : Su) (fo so : Option Addr) (fc sc : Nat) (fa : Nat → FA) (sa : Nat → DA) (hl : LitP u) (w : World) (hs : SuAt w u fo so fa sa) :
    CallsR Tryd.prog 40 [.agg ⟨[.slice fo u.founts.length fc, .slice so u.streets.length sc]⟩] w (fun v _ => v = .bool (decide (SuP u))) := by
  have hL0 := hl.1
  have hL1 := hl.2.1
  have hL2 := hl.2.2
  refine CallsR.of_SX (n := 112) (rs := [.tmp 2]) Tryd.func40 rfl rfl rfl rfl ?_
  show SX _ _ _ ⟨[(0, .agg ⟨[.slice fo u.founts.length fc, .slice so u.streets.length sc]⟩)], [], []⟩
  refine SX.seq ?_
  refine SX.region ?_
  refine SXL.box rfl rfl ?_; intro b0
  refine SXL.assign rfl ?_
  refine SXL.nil ?_
  refine thenQ.normal ?_
  refine SX.seq ?_
  refine SX.seq ?_
  refine SX.region ?_
  refine SXL.fieldAddr fp_25_0 rfl ?_
  refine SXL.load1o 0 sh_22 rfl rfl rfl ?_
  refine SXL.len is_22 rfl ?_
  refine SXL.call1 (.bool (decide (Wi ((u.founts.length : Int)) (1) (4)))) fn_62 rfl (fun w hI => within9_any _ _ _ _) ?_
  refine SXL.not rfl ?_
  refine SXL.move rfl ?_
  apply SXL.orG 4
  case hl => exact rfl
  case hd => exact rfl
  case hg => exact rfl
  case ht =>
    intro c20
    refine SXL.pass rfl rfl rfl ?_
    refine SXL.pass rfl rfl rfl ?_
    refine SXL.pass rfl rfl rfl ?_
    refine SXL.pass rfl rfl rfl ?_
    exact SXL.nil (segQ.mk (.skip rfl (.skip rfl (.skip rfl (.skip rfl (.skip rfl (EnvSub.refl _)))))) rfl rfl rfl)
  case hf =>
    intro c20
    refine SXL.fieldAddr fp_25_1 rfl ?_
    refine SXL.load1o 0 sh_23 rfl rfl rfl ?_
    refine SXL.len is_23 rfl ?_
    refine SXL.gtr rfl rfl ?_
    exact SXL.nil (segQ.mk (.skip rfl (.skip rfl (.skip rfl (.skip rfl (.skip rfl (EnvSub.refl _)))))) rfl rfl ⟨rfl, rfl⟩)
  refine SXL.nil ?_
  refine thenQ.normal ?_
  refine SX.condP rfl (fun c20 => ?_) (fun c20 => ?_)
  · refine SX.seq ?_
    refine SX.region ?_
    refine SXL.assign rfl ?_
    refine SXL.nil ?_
    refine thenQ.normal ?_
    refine SX.ret ?_
    refine thenQ.ret ?_
    refine retQ.one (ResAt.tmp rfl) ?_
    exact congrArg Value.bool (decide_eq_false (by intro h; have h1 := h.1; unfold SizeP at h1; omega)).symm
  · refine SX.skip ?_
    refine thenQ.normal ?_
    refine SX.seq ?_
    refine SX.region ?_
    refine SXL.assign rfl ?_
    refine SXL.nil ?_
    refine thenQ.normal ?_
    refine SX.seq ?_
    refine SX.seq ?_
    refine SX.region ?_
    refine SXL.fieldAddr fp_25_0 rfl ?_
    refine SXL.load1o 0 sh_22 rfl rfl rfl ?_
    refine SXL.len is_22 rfl ?_
    refine SXL.move rfl ?_
    refine SXL.nil ?_
    refine thenQ.normal ?_
    refine SX.block ?_
    refine SX.loopG (α := Nat) [1, 2, 22, 23] rfl (fun k => [(24, .int .i64 ((k : Int))), (3, .int .i64 ((lastF u k)))]) (fun k => []) (fun k => k ≤ u.founts.length ∧ ∀ i, i < k → FoP (lastF u i) (u.founts.getD i default)) (fun k => u.founts.length - k) 0 ⟨Nat.zero_le _, fun _ h => absurd h (Nat.not_lt_zero _)⟩ ⟨rfl, rfl, trivial⟩ rfl ?_
    rintro k ⟨hk, hall⟩
    refine SX.seq ?_
    refine SX.region ?_
    refine SXL.lss rfl rfl ?_
    refine SXL.nil ?_
    refine thenQ.normal ?_
    refine SX.seq ?_
    refine SX.condP rfl (fun c25 => ?_) (fun c25 => ?_)
    · refine SX.skip ?_
      refine thenQ.normal ?_
      refine SX.seq ?_
      refine SX.block ?_
      refine SX.seq ?_
      obtain ⟨b, o, ha, hm⟩ := hs.fount (i := k) (by omega)
      have hla := lastF_in hall
      refine SX.region ?_
      refine SXL.indexR el_22 rfl rfl ha (by omega) ?_
      refine SXL.loadN sh_70 rfl (hm _) rfl ?_
      refine SXL.alloc zp_70 ?_; intro b1
      refine SXL.store 1 sz_70 rfl rfl rfl rfl rfl rfl ?_
      refine SXL.nil ?_
      refine thenQ.normal ?_
      refine SX.seq ?_
      refine SX.seq ?_
      refine SX.region ?_
      refine SXL.fieldAddr fp_70_0 rfl ?_
      refine SXL.load1o 1 sh_3 rfl rfl rfl ?_
      refine SXL.move rfl ?_
      refine SXL.add rfl rfl (by omega) ?_
      refine SXL.call1 (.bool (decide (Wi ((u.founts.getD k default).id) (lastF u k + 1) (9999)))) fn_62 rfl (fun w hI => within9_any _ _ _ _) ?_
      refine SXL.not rfl ?_
      refine SXL.move rfl ?_
      apply SXL.orG 4
      case hl => exact rfl
      case hd => exact rfl
      case hg => exact rfl
      case ht =>
        intro c39
        refine SXL.pass rfl rfl rfl ?_
        refine SXL.pass rfl rfl rfl ?_
        refine SXL.pass rfl rfl rfl ?_
        refine SXL.pass rfl rfl rfl ?_
        exact SXL.nil (segQ.mk (.skip rfl (.skip rfl (.skip rfl (.skip rfl (.skip rfl (EnvSub.refl _)))))) rfl rfl rfl)
      case hf =>
        intro c39
        refine SXL.fieldAddr fp_70_1 rfl ?_
        refine SXL.loadNo 1 sh_68 rfl rfl rfl ?_
        refine SXL.call1 (.bool (decide (SpP ((u.founts.getD k default).sp)))) fn_87 rfl (fun w hI => spring_any ((u.founts.getD k default).sp) (fa k).bo (fa k).ro (fa k).bc (fa k).rc w ((hs.springs k (by omega)).inv hI)) ?_
        refine SXL.not rfl ?_
        exact SXL.nil (segQ.mk (.skip rfl (.skip rfl (.skip rfl (.skip rfl (.skip rfl (EnvSub.refl _)))))) rfl rfl ⟨rfl, rfl⟩)
      refine SXL.nil ?_
      refine thenQ.normal ?_
      refine SX.condP rfl (fun c39 => ?_) (fun c39 => ?_)
      · refine SX.seq ?_
        refine SX.region ?_
        refine SXL.assign rfl ?_
        refine SXL.nil ?_
        refine thenQ.normal ?_
        refine SX.ret ?_
        refine thenQ.ret ?_
        refine blockQ.ret ?_
        refine thenQ.ret ?_
        refine thenQ.ret ?_
        refine blockQ.ret ?_
        refine thenQ.ret ?_
        refine retQ.one (ResAt.tmp rfl) ?_
        exact congrArg Value.bool (decide_eq_false (by intro h; have h1 := h.2.1 k (by omega); rcases c39 with c | c; omega; exact c h1.2)).symm
      · refine SX.skip ?_
        refine thenQ.normal ?_
        refine SX.region ?_
        refine SXL.fieldAddr fp_70_0 rfl ?_
        refine SXL.load1o 1 sh_3 rfl rfl rfl ?_
        refine SXL.assign rfl ?_
        refine SXL.nil ?_
        refine blockQ.normal ?_
        refine thenQ.normal ?_
        refine SX.region ?_
        refine SXL.add rfl rfl (by omega) ?_
        refine SXL.move rfl ?_
        refine SXL.nil ?_
        refine thenQ.normal ?_
        refine ⟨k + 1, Meets.mk _ ⟨rfl, rfl, trivial⟩ ⟨rfl, rfl, rfl, rfl, trivial⟩ rfl, ?_, (by omega)⟩
        refine ⟨by omega, fun i hi => ?_⟩
        by_cases e : i = k
        · subst e; obtain ⟨c1, c2⟩ := not_or.1 c39
          exact ⟨by omega, Decidable.not_not.1 c2⟩
        · exact hall i (by omega)
    · refine SX.exit ?_
      refine thenQ.exit ?_
      refine thenQ.exit ?_
      refine blockQ.exit ?_
      refine thenQ.normal ?_
      refine SX.seq ?_
      obtain rfl : k = u.founts.length := by omega
      have hF : FountsP u := fun i hi => hall i hi
      refine SX.region ?_
      refine SXL.assign rfl ?_
      refine SXL.nil ?_
      refine thenQ.normal ?_
      refine SX.seq ?_
      refine SX.seq ?_
      refine SX.region ?_
      refine SXL.fieldAddr fp_25_1 rfl ?_
      refine SXL.load1o 0 sh_23 rfl rfl rfl ?_
      refine SXL.len is_23 rfl ?_
      refine SXL.move rfl ?_
      refine SXL.nil ?_
      refine thenQ.normal ?_
      refine SX.block ?_
      refine SX.loopG (α := Nat) [1, 2, 44, 45] rfl (fun k => [(46, .int .i64 ((k : Int))), (3, .int .i64 ((lastR u k)))]) (fun k => []) (fun k => k ≤ u.streets.length ∧ ∀ i, i < k → SrP u (lastR u i) (u.streets.getD i default)) (fun k => u.streets.length - k) 0 ⟨Nat.zero_le _, fun _ h => absurd h (Nat.not_lt_zero _)⟩ ⟨rfl, rfl, trivial⟩ rfl ?_
      rintro k ⟨hk2, hall2⟩
      refine SX.seq ?_
      refine SX.region ?_
      refine SXL.lss rfl rfl ?_
      refine SXL.nil ?_
      refine thenQ.normal ?_
      refine SX.seq ?_
      refine SX.condP rfl (fun c47 => ?_) (fun c47 => ?_)
      · refine SX.skip ?_
        refine thenQ.normal ?_
        refine SX.seq ?_
        refine SX.block ?_
        refine SX.seq ?_
        obtain ⟨b, o, ha, hm⟩ := hs.street (i := k) (by omega)
        have hLk := hL2 k (by omega)
        have hla := lastR_in hall2
        refine SX.region ?_
        refine SXL.indexR el_23 rfl rfl ha (by omega) ?_
        refine SXL.loadN sh_73 rfl (hm _) rfl ?_
        refine SXL.alloc zp_73 ?_; intro b1
        refine SXL.store 1 sz_73 rfl rfl rfl rfl rfl rfl ?_
        refine SXL.nil ?_
        refine thenQ.normal ?_
        refine SX.seq ?_
        refine SX.seq ?_
        refine SX.region ?_
        refine SXL.fieldAddr fp_73_0 rfl ?_
        refine SXL.load1o 1 sh_3 rfl rfl rfl ?_
        refine SXL.move rfl ?_
        refine SXL.add rfl rfl (by omega) ?_
        refine SXL.call1 (.bool (decide (Wi ((u.streets.getD k default).id) (lastR u k + 1) (9999)))) fn_62 rfl (fun w hI => within9_any _ _ _ _) ?_
        refine SXL.not rfl ?_
        refine SXL.move rfl ?_
        apply SXL.orG 5
        case hl => exact rfl
        case hd => exact rfl
        case hg => exact rfl
        case ht =>
          intro g7
          refine SXL.pass rfl rfl rfl ?_
          refine SXL.pass rfl rfl rfl ?_
          refine SXL.pass rfl rfl rfl ?_
          refine SXL.pass rfl rfl rfl ?_
          refine SXL.pass rfl rfl rfl ?_
          exact SXL.nil (segQ.mk (.skip rfl (.skip rfl (.skip rfl (.skip rfl (.skip rfl (.skip rfl (EnvSub.refl _))))))) rfl rfl rfl)
        case hf =>
          intro g7
          refine SXL.fieldAddr fp_73_1 rfl ?_
          refine SXL.fieldAddr fp_55_1 rfl ?_
          refine SXL.load1o 1 sh_3 rfl rfl rfl ?_
          refine SXL.call1 (.bool (decide (Wi ((u.streets.getD k default).n1) (0) (100)))) fn_62 rfl (fun w hI => within9_any _ _ _ _) ?_
          refine SXL.not rfl ?_
          exact SXL.nil (segQ.mk (.skip rfl (.skip rfl (.skip rfl (.skip rfl (.skip rfl (.skip rfl (EnvSub.refl _))))))) rfl rfl ⟨rfl, rfl⟩)
        refine SXL.move rfl ?_
        apply SXL.orG 8
        case hl => exact rfl
        case hd => exact rfl
        case hg => exact rfl
        case ht =>
          intro g8
          refine SXL.pass rfl rfl rfl ?_
          refine SXL.pass rfl rfl rfl ?_
          refine SXL.pass rfl rfl rfl ?_
          refine SXL.pass rfl rfl rfl ?_
          refine SXL.pass rfl rfl rfl ?_
          refine SXL.pass rfl rfl rfl ?_
          refine SXL.pass rfl rfl rfl ?_
          refine SXL.pass rfl rfl rfl ?_
          exact SXL.nil (segQ.mk (.skip rfl (.skip rfl (.skip rfl (.skip rfl (.skip rfl (.skip rfl (.skip rfl (.skip rfl (.skip rfl (EnvSub.refl _)))))))))) rfl rfl rfl)
        case hf =>
          intro g8
          refine SXL.fieldAddr fp_73_1 rfl ?_
          refine SXL.fieldAddr fp_55_0 rfl ?_
          refine SXL.load1o 1 sh_3 rfl rfl rfl ?_
          refine SXL.fieldAddr fp_73_1 rfl ?_
          refine SXL.fieldAddr fp_55_1 rfl ?_
          refine SXL.load1o 1 sh_3 rfl rfl rfl ?_
          refine SXL.call1 (.bool (decide (Wi ((u.streets.getD k default).n0) (0) ((u.streets.getD k default).n1)))) fn_62 rfl (fun w hI => within9_any _ _ _ _) ?_
          refine SXL.not rfl ?_
          exact SXL.nil (segQ.mk (.skip rfl (.skip rfl (.skip rfl (.skip rfl (.skip rfl (.skip rfl (.skip rfl (.skip rfl (.skip rfl (EnvSub.refl _)))))))))) rfl rfl ⟨rfl, rfl⟩)
        refine SXL.move rfl ?_
        apply SXL.orG 7
        case hl => exact rfl
        case hd => exact rfl
        case hg => exact rfl
        case ht =>
          intro c81
          refine SXL.pass rfl rfl rfl ?_
          refine SXL.pass rfl rfl rfl ?_
          refine SXL.pass rfl rfl rfl ?_
          refine SXL.pass rfl rfl rfl ?_
          refine SXL.pass rfl rfl rfl ?_
          refine SXL.pass rfl rfl rfl ?_
          refine SXL.pass rfl rfl rfl ?_
          exact SXL.nil (segQ.mk (.skip rfl (.skip rfl (.skip rfl (.skip rfl (.skip rfl (.skip rfl (.skip rfl (.skip rfl (EnvSub.refl _))))))))) rfl rfl rfl)
        case hf =>
          intro c81
          refine SXL.fieldAddr fp_73_2 rfl ?_
          refine SXL.load1o 1 sh_3 rfl rfl rfl ?_
          refine SXL.fieldAddr fp_73_1 rfl ?_
          refine SXL.fieldAddr fp_55_0 rfl ?_
          refine SXL.load1o 1 sh_3 rfl rfl rfl ?_
          refine SXL.call1 (.bool (decide (Wi ((u.streets.getD k default).least) (0) ((u.streets.getD k default).n0)))) fn_62 rfl (fun w hI => within9_any _ _ _ _) ?_
          refine SXL.not rfl ?_
          exact SXL.nil (segQ.mk (.skip rfl (.skip rfl (.skip rfl (.skip rfl (.skip rfl (.skip rfl (.skip rfl (.skip rfl (EnvSub.refl _))))))))) rfl rfl ⟨rfl, rfl⟩)
        refine SXL.nil ?_
        refine thenQ.normal ?_
        refine SX.condP rfl (fun c81 => ?_) (fun c81 => ?_)
        · refine SX.seq ?_
          refine SX.region ?_
          refine SXL.assign rfl ?_
          refine SXL.nil ?_
          refine thenQ.normal ?_
          refine SX.ret ?_
          refine thenQ.ret ?_
          refine blockQ.ret ?_
          refine thenQ.ret ?_
          refine thenQ.ret ?_
          refine blockQ.ret ?_
          refine thenQ.ret ?_
          refine retQ.one (ResAt.tmp rfl) ?_
          exact congrArg Value.bool (decide_eq_false (by intro h; have h1 := h.2.2 k (by omega); have h4 := h1.1; have h2 := h1.2.1; have h3 := h1.2.2.1; omega)).symm
        · refine SX.skip ?_
          refine thenQ.normal ?_
          refine SX.seq ?_
          refine SX.seq ?_
          refine SX.region ?_
          refine SXL.fieldAddr fp_73_3 rfl ?_
          refine SXL.load1o 1 sh_33 rfl rfl rfl ?_
          refine SXL.len is_33 rfl ?_
          refine SXL.move rfl ?_
          refine SXL.nil ?_
          refine thenQ.normal ?_
          refine SX.block ?_
          refine SX.loopG (α := Nat) [1, 2, 7, 44, 45, 46, 83, 84] rfl (fun j => [(85, .int .i64 ((j : Int)))]) (fun j => []) (fun j => j ≤ (u.streets.getD k default).draws.length ∧ ∀ i, i < j → HasF u ((u.streets.getD k default).draws.getD i 0) ∧ (0 < i → (u.streets.getD k default).draws.getD (i - 1) 0 < (u.streets.getD k default).draws.getD i 0)) (fun j => (u.streets.getD k default).draws.length - j) 0 ⟨Nat.zero_le _, fun _ h => absurd h (Nat.not_lt_zero _)⟩ ⟨rfl, trivial⟩ rfl ?_
          rintro j ⟨hj, hall3⟩
          refine SX.seq ?_
          refine SX.region ?_
          refine SXL.lss rfl rfl ?_
          refine SXL.nil ?_
          refine thenQ.normal ?_
          refine SX.seq ?_
          refine SX.condP rfl (fun c86 => ?_) (fun c86 => ?_)
          · refine SX.skip ?_
            refine thenQ.normal ?_
            refine SX.seq ?_
            refine SX.block ?_
            refine SX.seq ?_
            obtain ⟨bd, od, had, hmd⟩ := oneI (hs.draws k (by omega)) (i := j) (by omega)
            refine SX.region ?_
            refine SXL.move rfl ?_
            refine SXL.indexR el_33 rfl rfl had (by omega) ?_
            refine SXL.load1 sh_3 rfl (hmd _) ?_
            refine SXL.assign rfl ?_
            refine SXL.assign rfl ?_
            refine SXL.nil ?_
            refine thenQ.normal ?_
            refine SX.seq ?_
            refine SX.region ?_
            refine SXL.loadNo 0 sh_25 rfl rfl rfl ?_
            refine SXL.move rfl ?_
            refine SXL.call1 (.int .i64 (fountI u ((u.streets.getD k default).draws.getD j 0))) fn_65 rfl (fun w hI => rfount_any u fo so fc sc fa sa ((u.streets.getD k default).draws.getD j 0) hl w (hs.inv hI)) ?_
            refine SXL.lss rfl rfl ?_
            refine SXL.move rfl ?_
            apply SXL.orG 12
            case hl => exact rfl
            case hd => exact rfl
            case hg => exact rfl
            case ht =>
              intro c107
              refine SXL.pass rfl rfl rfl ?_
              refine SXL.pass rfl rfl rfl ?_
              refine SXL.pass rfl rfl rfl ?_
              refine SXL.pass rfl rfl rfl ?_
              refine SXL.pass rfl rfl rfl ?_
              refine SXL.pass rfl rfl rfl ?_
              refine SXL.pass rfl rfl rfl ?_
              refine SXL.pass rfl rfl rfl ?_
              refine SXL.pass rfl rfl rfl ?_
              refine SXL.pass rfl rfl rfl ?_
              refine SXL.pass rfl rfl rfl ?_
              refine SXL.pass rfl rfl rfl ?_
              exact SXL.nil (segQ.mk (.skip rfl (.skip rfl (.skip rfl (.skip rfl (.skip rfl (.skip rfl (.skip rfl (.skip rfl (.skip rfl (.skip rfl (.skip rfl (.skip rfl (.skip rfl (EnvSub.refl _)))))))))))))) rfl rfl rfl)
            case hf =>
              intro c107
              refine SXL.move rfl ?_
              refine SXL.gtr rfl rfl ?_
              refine SXL.move rfl ?_
              apply SXL.andG 8
              case hl => exact rfl
              case hd => exact rfl
              case hg => exact rfl
              case ht =>
                intro g13
                obtain ⟨bd2, od2, had2, hmd2⟩ := oneI (hs.draws k (by omega)) (i := ((j : Int) - 1).toNat) (by omega)
                refine SXL.fieldAddr fp_73_3 rfl ?_
                refine SXL.load1o 1 sh_33 rfl rfl rfl ?_
                refine SXL.move rfl ?_
                refine SXL.sub rfl rfl (by omega) ?_
                refine SXL.indexR el_33 rfl rfl had2 (by omega) ?_
                refine SXL.load1 sh_3 rfl (hmd2 _) ?_
                refine SXL.move rfl ?_
                refine SXL.geq rfl rfl ?_
                exact SXL.nil (segQ.mk (.skip rfl (.skip rfl (.skip rfl (.skip rfl (.skip rfl (.skip rfl (.skip rfl (.skip rfl (.skip rfl (EnvSub.refl _)))))))))) rfl rfl ⟨rfl, rfl⟩)
              case hf =>
                intro g13
                refine SXL.pass rfl rfl rfl ?_
                refine SXL.pass rfl rfl rfl ?_
                refine SXL.pass rfl rfl rfl ?_
                refine SXL.pass rfl rfl rfl ?_
                refine SXL.pass rfl rfl rfl ?_
                refine SXL.pass rfl rfl rfl ?_
                refine SXL.pass rfl rfl rfl ?_
                refine SXL.pass rfl rfl rfl ?_
                exact SXL.nil (segQ.mk (.skip rfl (.skip rfl (.skip rfl (.skip rfl (.skip rfl (.skip rfl (.skip rfl (.skip rfl (.skip rfl (EnvSub.refl _)))))))))) rfl rfl rfl)
              exact SXL.nil (segQ.mk (.skip rfl (.skip rfl (.skip rfl (.skip rfl (EnvSub.refl _))))) rfl rfl ⟨rfl, rfl⟩)
            refine SXL.nil ?_
            refine thenQ.normal ?_
            refine SX.condP rfl (fun c107 => ?_) (fun c107 => ?_)
            · refine SX.seq ?_
              refine SX.region ?_
              refine SXL.assign rfl ?_
              refine SXL.nil ?_
              refine thenQ.normal ?_
              refine SX.ret ?_
              refine blockQ.ret ?_
              refine thenQ.ret ?_
              refine thenQ.ret ?_
              refine blockQ.ret ?_
              refine thenQ.ret ?_
              refine blockQ.ret ?_
              refine thenQ.ret ?_
              refine thenQ.ret ?_
              refine blockQ.ret ?_
              refine thenQ.ret ?_
              refine retQ.one (ResAt.tmp rfl) ?_
              exact congrArg Value.bool (decide_eq_false (by intro h; have h1 := (h.2.2 k (by omega)).2.2.2 j (by omega); have h2 := fountI_has.2 h1.2; have e2 : ((j : Int) - 1).toNat = j - 1 := (by omega); rw [e2] at c107; rcases c107 with c | c; omega; have h3 := lastD_at (l := (u.streets.getD k default).draws) (j := j) (by omega); omega)).symm
            · refine SX.skip ?_
              refine blockQ.normal ?_
              refine thenQ.normal ?_
              refine SX.region ?_
              refine SXL.add rfl rfl (by omega) ?_
              refine SXL.move rfl ?_
              refine SXL.nil ?_
              refine thenQ.normal ?_
              refine ⟨j + 1, Meets.mk _ ⟨rfl, trivial⟩ ⟨rfl, rfl, rfl, rfl, rfl, rfl, rfl, rfl, trivial⟩ rfl, ?_, (by omega)⟩
              refine ⟨by omega, fun i hi => ?_⟩
              by_cases e : i = j
              · subst e
                obtain ⟨c1, c2⟩ := not_or.1 c107
                refine ⟨fountI_has.1 (by omega), fun h0 => ?_⟩
                have e2 : ((i : Int) - 1).toNat = i - 1 := by omega
                rw [e2] at c2
                have := not_and.1 c2 (by omega)
                omega
              · exact hall3 i (by omega)
          · refine SX.exit ?_
            refine thenQ.exit ?_
            refine thenQ.exit ?_
            refine blockQ.exit ?_
            refine thenQ.normal ?_
            refine SX.region ?_
            refine SXL.fieldAddr fp_73_0 rfl ?_
            refine SXL.load1o 1 sh_3 rfl rfl rfl ?_
            refine SXL.assign rfl ?_
            refine SXL.nil ?_
            refine blockQ.normal ?_
            refine thenQ.normal ?_
            refine SX.region ?_
            refine SXL.add rfl rfl (by omega) ?_
            refine SXL.move rfl ?_
            refine SXL.nil ?_
            refine thenQ.normal ?_
            refine ⟨k + 1, Meets.mk _ ⟨rfl, rfl, trivial⟩ ⟨rfl, rfl, rfl, rfl, trivial⟩ rfl, ?_, (by omega)⟩
            refine ⟨by omega, fun i hi => ?_⟩
            by_cases e : i = k
            · subst e
              exact ⟨by omega, by omega, by omega, drP_of hF fun x hx => hall3 x (by omega)⟩
            · exact hall2 i (by omega)
      · refine SX.exit ?_
        refine thenQ.exit ?_
        refine thenQ.exit ?_
        refine blockQ.exit ?_
        refine thenQ.normal ?_
        refine SX.seq ?_
        refine SX.region ?_
        refine SXL.assign rfl ?_
        refine SXL.nil ?_
        refine thenQ.normal ?_
        refine SX.ret ?_
        refine retQ.one (ResAt.tmp rfl) ?_
        exact congrArg Value.bool (decide_eq_true (p := SuP u) ⟨by unfold SizeP; omega, hF, fun i hi => hall2 i (by omega)⟩).symm
theorem rlong_any (u : Su) (fo so : Option Addr) (fc sc : Nat) (fa : Nat → FA) (sa : Nat → DA) (hl : LitP u) (w : World) (hs : SuAt w u fo so fa sa) :
    CallsR Tryd.prog 41 [.agg ⟨[.slice fo u.founts.length fc, .slice so u.streets.length sc]⟩] w (fun v _ => v = .int .i64 (long u)) := by
  have hL0 := hl.1
  have hL1 := hl.2.1
  have hL2 := hl.2.2
  refine CallsR.of_SX (n := 20) (rs := [.tmp 2]) Tryd.func41 rfl rfl rfl rfl ?_
  show SX _ _ _ ⟨[(0, .agg ⟨[.slice fo u.founts.length fc, .slice so u.streets.length sc]⟩)], [], []⟩
  refine SX.seq ?_
  refine SX.region ?_
  refine SXL.box rfl rfl ?_; intro b0
  refine SXL.assign rfl ?_
  refine SXL.nil ?_
  refine thenQ.normal ?_
  refine SX.seq ?_
  refine SX.region ?_
  refine SXL.assign rfl ?_
  refine SXL.nil ?_
  refine thenQ.normal ?_
  refine SX.seq ?_
  refine SX.seq ?_
  refine SX.region ?_
  refine SXL.fieldAddr fp_25_0 rfl ?_
  refine SXL.load1o 0 sh_22 rfl rfl rfl ?_
  refine SXL.len is_22 rfl ?_
  refine SXL.move rfl ?_
  refine SXL.nil ?_
  refine thenQ.normal ?_
  refine SX.block ?_
  refine SX.loopG (α := Nat) [2, 7, 8] rfl (fun k => [(9, .int .i64 ((k : Int))), (3, .int .i64 ((longTo u k)))]) (fun k => []) (fun k => k ≤ u.founts.length) (fun k => u.founts.length - k) 0 (Nat.zero_le _) ⟨rfl, rfl, trivial⟩ rfl ?_
  rintro k hk
  refine SX.seq ?_
  refine SX.region ?_
  refine SXL.lss rfl rfl ?_
  refine SXL.nil ?_
  refine thenQ.normal ?_
  refine SX.seq ?_
  refine SX.condP rfl (fun c10 => ?_) (fun c10 => ?_)
  · refine SX.skip ?_
    refine thenQ.normal ?_
    refine SX.seq ?_
    refine SX.block ?_
    refine SX.seq ?_
    obtain ⟨b, o, ha, hm⟩ := hs.fount (i := k) (by omega)
    refine SX.region ?_
    refine SXL.indexR el_22 rfl rfl ha (by omega) ?_
    refine SXL.loadN sh_70 rfl (hm _) rfl ?_
    refine SXL.alloc zp_70 ?_; intro b1
    refine SXL.store 1 sz_70 rfl rfl rfl rfl rfl rfl ?_
    refine SXL.nil ?_
    refine thenQ.normal ?_
    refine SX.region ?_
    refine SXL.move rfl ?_
    refine SXL.fieldAddr fp_70_1 rfl ?_
    refine SXL.fieldAddr fp_68_0 rfl ?_
    refine SXL.load1o 1 sh_3 rfl rfl rfl ?_
    refine SXL.min rfl rfl ?_
    refine SXL.assign rfl ?_
    refine SXL.nil ?_
    refine blockQ.normal ?_
    refine thenQ.normal ?_
    refine SX.region ?_
    refine SXL.add rfl rfl (by omega) ?_
    refine SXL.move rfl ?_
    refine SXL.nil ?_
    refine thenQ.normal ?_
    refine ⟨k + 1, Meets.mk _ ⟨rfl, rfl, trivial⟩ ⟨rfl, rfl, rfl, trivial⟩ rfl, (by omega), (by omega)⟩
  · refine SX.exit ?_
    refine thenQ.exit ?_
    refine thenQ.exit ?_
    refine blockQ.exit ?_
    refine thenQ.normal ?_
    refine SX.seq ?_
    obtain rfl : k = u.founts.length := by omega
    refine SX.region ?_
    refine SXL.move rfl ?_
    refine SXL.assign rfl ?_
    refine SXL.nil ?_
    refine thenQ.normal ?_
    refine SX.ret ?_
    refine retQ.one (ResAt.tmp rfl) ?_
    rfl
theorem rtrue_any (u : Su) (fo so : Option Addr) (fc sc : Nat) (fa : Nat → FA) (sa : Nat → DA) (hv : SuP u) (hl : LitP u) (w : World) (hs : SuAt w u fo so fa sa) :
    CallsR Tryd.prog 64 [.agg ⟨[.slice fo u.founts.length fc, .slice so u.streets.length sc]⟩] w (fun v _ => v = .bool (decide (TrueS u))) := by
  have hL0 := hl.1
  have hL1 := hl.2.1
  have hL2 := hl.2.2
  refine CallsR.of_SX (n := 17) (rs := [.tmp 2]) Tryd.func64 rfl rfl rfl rfl ?_
  show SX _ _ _ ⟨[(0, .agg ⟨[.slice fo u.founts.length fc, .slice so u.streets.length sc]⟩)], [], []⟩
  refine SX.seq ?_
  refine SX.region ?_
  refine SXL.box rfl rfl ?_; intro b0
  refine SXL.assign rfl ?_
  refine SXL.nil ?_
  refine thenQ.normal ?_
  refine SX.seq ?_
  refine SX.seq ?_
  refine SX.region ?_
  refine SXL.fieldAddr fp_25_0 rfl ?_
  refine SXL.load1o 0 sh_22 rfl rfl rfl ?_
  refine SXL.len is_22 rfl ?_
  refine SXL.move rfl ?_
  refine SXL.nil ?_
  refine thenQ.normal ?_
  refine SX.block ?_
  refine SX.loopG (α := Nat) [2, 6, 7] rfl (fun k => [(8, .int .i64 ((k : Int)))]) (fun k => []) (fun k => k ≤ u.founts.length ∧ ∀ i, i < k → TrueP (u.founts.getD i default).sp) (fun k => u.founts.length - k) 0 ⟨Nat.zero_le _, fun _ h => absurd h (Nat.not_lt_zero _)⟩ ⟨rfl, trivial⟩ rfl ?_
  rintro k ⟨hk, hall⟩
  refine SX.seq ?_
  refine SX.region ?_
  refine SXL.lss rfl rfl ?_
  refine SXL.nil ?_
  refine thenQ.normal ?_
  refine SX.seq ?_
  refine SX.condP rfl (fun c9 => ?_) (fun c9 => ?_)
  · refine SX.skip ?_
    refine thenQ.normal ?_
    refine SX.seq ?_
    refine SX.block ?_
    refine SX.seq ?_
    obtain ⟨b, o, ha, hm⟩ := hs.fount (i := k) (by omega)
    refine SX.region ?_
    refine SXL.indexR el_22 rfl rfl ha (by omega) ?_
    refine SXL.loadN sh_70 rfl (hm _) rfl ?_
    refine SXL.alloc zp_70 ?_; intro b1
    refine SXL.store 1 sz_70 rfl rfl rfl rfl rfl rfl ?_
    refine SXL.nil ?_
    refine thenQ.normal ?_
    refine SX.seq ?_
    refine SX.region ?_
    refine SXL.fieldAddr fp_70_1 rfl ?_
    refine SXL.loadNo 1 sh_68 rfl rfl rfl ?_
    refine SXL.call1 (.bool (decide (TrueP ((u.founts.getD k default).sp)))) fn_93 rfl (fun w hI => true_any ((u.founts.getD k default).sp) (fa k).bo (fa k).ro (fa k).bc (fa k).rc (hv.spring (by omega)) w ((hs.springs k (by omega)).inv hI)) ?_
    refine SXL.not rfl ?_
    refine SXL.nil ?_
    refine thenQ.normal ?_
    refine SX.condP rfl (fun c15 => ?_) (fun c15 => ?_)
    · refine SX.seq ?_
      refine SX.region ?_
      refine SXL.assign rfl ?_
      refine SXL.nil ?_
      refine thenQ.normal ?_
      refine SX.ret ?_
      refine blockQ.ret ?_
      refine thenQ.ret ?_
      refine thenQ.ret ?_
      refine blockQ.ret ?_
      refine thenQ.ret ?_
      refine retQ.one (ResAt.tmp rfl) ?_
      exact congrArg Value.bool (decide_eq_false (by intro h; exact c15 (h k (by omega)))).symm
    · refine SX.skip ?_
      refine blockQ.normal ?_
      refine thenQ.normal ?_
      refine SX.region ?_
      refine SXL.add rfl rfl (by omega) ?_
      refine SXL.move rfl ?_
      refine SXL.nil ?_
      refine thenQ.normal ?_
      refine ⟨k + 1, Meets.mk _ ⟨rfl, trivial⟩ ⟨rfl, rfl, rfl, trivial⟩ rfl, ?_, (by omega)⟩
      refine ⟨by omega, fun i hi => ?_⟩
      by_cases e : i = k
      · subst e; exact Decidable.not_not.1 c15
      · exact hall i (by omega)
  · refine SX.exit ?_
    refine thenQ.exit ?_
    refine thenQ.exit ?_
    refine blockQ.exit ?_
    refine thenQ.normal ?_
    refine SX.seq ?_
    refine SX.region ?_
    refine SXL.assign rfl ?_
    refine SXL.nil ?_
    refine thenQ.normal ?_
    refine SX.ret ?_
    refine retQ.one (ResAt.tmp rfl) ?_
    exact congrArg Value.bool (decide_eq_true (fun i hi => hall i (by omega))).symm
theorem rasked_any (u : Su) (fo so : Option Addr) (fc sc : Nat) (fa : Nat → FA) (sa : Nat → DA) (week : Int) (hl : LitP u) (w : World) (hs : SuAt w u fo so fa sa) :
    CallsR Tryd.prog 44 [.agg ⟨[.slice fo u.founts.length fc, .slice so u.streets.length sc]⟩, .int .i64 week] w (fun v _ => v = .int .i64 (askT u week True 0)) := by
  refine CallsR.of_SX (n := 17) (rs := [.tmp 4]) Tryd.func44 rfl rfl rfl rfl ?_
  show SX _ _ _ ⟨[(0, .agg ⟨[.slice fo u.founts.length fc, .slice so u.streets.length sc]⟩), (1, .int .i64 week)], [], []⟩
  refine SX.seq ?_
  refine SX.region ?_
  refine SXL.box rfl rfl ?_; intro b0
  refine SXL.assign rfl ?_
  refine SXL.nil ?_
  refine thenQ.normal ?_
  refine SX.seq ?_
  refine SX.seq ?_
  refine SX.region ?_
  refine SXL.loadNo 0 sh_25 rfl rfl rfl ?_
  refine SXL.call1 (.bool (decide (SuP u))) fn_40 rfl (fun w hI => supply_any u fo so fc sc fa sa hl w (hs.inv hI)) ?_
  refine SXL.not rfl ?_
  refine SXL.nil ?_
  refine thenQ.normal ?_
  refine SX.condP rfl (fun c7 => ?_) (fun c7 => ?_)
  · refine SX.seq ?_
    refine SX.region ?_
    refine SXL.assign rfl ?_
    refine SXL.nil ?_
    refine thenQ.normal ?_
    refine SX.ret ?_
    refine thenQ.ret ?_
    refine retQ.one (ResAt.tmp rfl) ?_
    rw [askT, if_pos c7]
  · refine SX.skip ?_
    refine thenQ.normal ?_
    refine SX.seq ?_
    refine SX.seq ?_
    have hv := Decidable.not_not.1 c7
    have hlo := hv.long
    refine SX.region ?_
    refine SXL.move rfl ?_
    refine SXL.loadNo 0 sh_25 rfl rfl rfl ?_
    refine SXL.call1 (.int .i64 (long u)) fn_41 rfl (fun w hI => rlong_any u fo so fc sc fa sa hl w (hs.inv hI)) ?_
    refine SXL.sub rfl rfl (by omega) ?_
    refine SXL.call1 (.bool (decide (Wi (week) (0) (long u - 1)))) fn_62 rfl (fun w hI => within9_any _ _ _ _) ?_
    refine SXL.not rfl ?_
    refine SXL.nil ?_
    refine thenQ.normal ?_
    refine SX.condP rfl (fun c13 => ?_) (fun c13 => ?_)
    · refine SX.seq ?_
      refine SX.region ?_
      refine SXL.assign rfl ?_
      refine SXL.nil ?_
      refine thenQ.normal ?_
      refine SX.ret ?_
      refine thenQ.ret ?_
      refine retQ.one (ResAt.tmp rfl) ?_
      rw [askT, if_neg (Classical.not_not.2 hv), if_pos c13]
    · refine SX.skip ?_
      refine thenQ.normal ?_
      refine SX.seq ?_
      refine SX.seq ?_
      have hw := Decidable.not_not.1 c13
      refine SX.region ?_
      refine SXL.loadNo 0 sh_25 rfl rfl rfl ?_
      refine SXL.call1 (.bool (decide (TrueS u))) fn_64 rfl (fun w hI => rtrue_any u fo so fc sc fa sa (hv) hl w (hs.inv hI)) ?_
      refine SXL.not rfl ?_
      refine SXL.nil ?_
      refine thenQ.normal ?_
      refine SX.condP rfl (fun c16 => ?_) (fun c16 => ?_)
      · refine SX.seq ?_
        refine SX.region ?_
        refine SXL.assign rfl ?_
        refine SXL.nil ?_
        refine thenQ.normal ?_
        refine SX.ret ?_
        refine thenQ.ret ?_
        refine retQ.one (ResAt.tmp rfl) ?_
        rw [askT, if_neg (Classical.not_not.2 hv), if_neg (Classical.not_not.2 hw), if_neg (fun h => h trivial), if_neg c16]
      · refine SX.skip ?_
        refine thenQ.normal ?_
        refine SX.seq ?_
        refine SX.region ?_
        refine SXL.assign rfl ?_
        refine SXL.nil ?_
        refine thenQ.normal ?_
        refine SX.ret ?_
        refine retQ.one (ResAt.tmp rfl) ?_
        rw [askT, if_neg (Classical.not_not.2 hv), if_neg (Classical.not_not.2 hw), if_neg (fun h => h trivial), if_pos (Decidable.not_not.1 c16)]
end Go.Proofs.YtolcicaclflagaaDoor

/- The walks of the reference of layer 9: whether there is enough. -/
namespace Go.Proofs.YtolcicaclflagaaDoor
open Go.X Go.S Go.T Go.RowKit
theorem given_any (u : Su) (fo so : Option Addr) (fc sc : Nat) (fa : Nat → FA) (sa : Nat → DA) (week : Int) (best : Bool) (hl : LitP u) (w : World) (hs : SuAt w u fo so fa sa) :
    CallsR Tryd.prog 45 [.agg ⟨[.slice fo u.founts.length fc, .slice so u.streets.length sc]⟩, .int .i64 week, .bool best] w (IsI (waterL u week best)) := by
  have hL0 := hl.1
  have hL1 := hl.2.1
  have hL2 := hl.2.2
  refine CallsR.of_SX (n := 39) (rs := [.tmp 6]) Tryd.func45 rfl rfl rfl rfl ?_
  show SX _ _ _ ⟨[(0, .agg ⟨[.slice fo u.founts.length fc, .slice so u.streets.length sc]⟩), (1, .int .i64 week), (2, .bool best)], [], []⟩
  refine SX.seq ?_
  refine SX.region ?_
  refine SXL.box rfl rfl ?_; intro b0
  refine SXL.assign rfl ?_
  refine SXL.nil ?_
  refine thenQ.normal ?_
  refine SX.seq ?_
  refine SX.pad (Sl.nil.ent 3 []) rfl ?_
  refine SX.region ?_
  refine SXL.assign rfl ?_
  refine SXL.nil ?_
  refine thenQ.normal ?_
  refine SX.seq ?_
  refine SX.seq ?_
  refine SX.region ?_
  refine SXL.fieldAddr fp_25_0 rfl ?_
  refine SXL.load1o 0 sh_22 rfl rfl rfl ?_
  refine SXL.len is_22 rfl ?_
  refine SXL.move rfl ?_
  refine SXL.nil ?_
  refine thenQ.normal ?_
  refine SX.block ?_
  refine SX.loopW (α := Nat × Sl × Nat × List Value) [1, 2, 6, 13, 14] rfl (fun ⟨k, q, n, c⟩ => [(15, .int .i64 ((k : Int))), (7, q.val n)]) (fun ⟨k, q, n, c⟩ => [(b0, .cells ⟨[.slice fo u.founts.length fc, .slice so u.streets.length sc]⟩ 25 (0, 0)), q.ent 3 c]) (fun ⟨k, q, n, c⟩ => []) (fun ⟨k, q, n, c⟩ => k ≤ u.founts.length ∧ q.Ok n 1 c ∧ n = k ∧ c = ints ((waterL u week best).take k)) (fun ⟨k, q, n, c⟩ => u.founts.length - k) (0, Sl.nil, 0, []) ⟨Nat.zero_le _, .none _, rfl, rfl⟩ ⟨rfl, rfl, trivial⟩ rfl ?_
  rintro ⟨k, q, n, c⟩ ⟨hk, ho, rfl, rfl⟩
  refine SX.seq ?_
  refine SX.region ?_
  refine SXL.lss rfl rfl ?_
  refine SXL.nil ?_
  refine thenQ.normal ?_
  refine SX.seq ?_
  refine SX.condP rfl (fun c16 => ?_) (fun c16 => ?_)
  · refine SX.skip ?_
    refine thenQ.normal ?_
    refine SX.seq ?_
    refine SX.block ?_
    refine SX.seq ?_
    obtain ⟨b, o, ha, hm⟩ := hs.fount (i := n) (by omega)
    refine SX.region ?_
    refine SXL.indexR el_22 rfl rfl ha (by omega) ?_
    refine SXL.loadN sh_70 rfl (hm _) rfl ?_
    refine SXL.alloc zp_70 ?_; intro b2
    refine SXL.store 2 sz_70 rfl rfl rfl rfl rfl rfl ?_
    refine SXL.nil ?_
    refine thenQ.normal ?_
    refine SX.seq ?_
    refine SX.region ?_
    refine SXL.fieldAddr fp_70_1 rfl ?_
    refine SXL.loadNo 2 sh_68 rfl rfl rfl ?_
    refine SXL.move rfl ?_
    refine SXL.call1 (.tuple ⟨[.agg ⟨[.int .i64 ((givesLo ((u.founts.getD n default).sp) week)), .int .i64 ((givesHi ((u.founts.getD n default).sp) week))]⟩, .int .i64 (toldE ((u.founts.getD n default).sp) week)]⟩) fn_89 rfl (fun w hI => gives_any ((u.founts.getD n default).sp) (fa n).bo (fa n).ro (fa n).bc (fa n).rc week w ((hs.springs n (by omega)).inv hI)) ?_
    refine SXL.move rfl ?_
    refine SXL.extract rfl rfl ?_
    refine SXL.extract rfl rfl ?_
    refine SXL.alloc zp_55 ?_; intro b3
    refine SXL.store 3 sz_55 rfl rfl rfl rfl rfl rfl ?_
    refine SXL.assign rfl ?_
    refine SXL.nil ?_
    refine thenQ.normal ?_
    refine SX.seq ?_
    refine SX.region ?_
    refine SXL.move rfl ?_
    refine SXL.nil ?_
    refine thenQ.normal ?_
    refine SX.cond rfl (fun c26 => ?_) (fun c26 => ?_)
    · refine SX.region ?_
      refine SXL.move rfl ?_
      refine SXL.fieldAddr fp_55_1 rfl ?_
      refine SXL.load1o 3 sh_3 rfl rfl rfl ?_
      refine SXL.buildSlice et_33 zp_3 rfl rfl rfl rfl ?_; intro b4
      refine SXL.append 1 ap_33 rfl rfl ho rfl (.inr ⟨_, _, rfl, Mem.own (i := 4) rfl (takeAt_all _)⟩) rfl rfl ⟨by simp only [maxLen]; omega, by omega⟩ ?_; intro r_31 o_31
      refine SXL.assign rfl ?_
      refine SXL.nil ?_
      refine blockQ.normal ?_
      refine thenQ.normal ?_
      refine SX.region ?_
      refine SXL.add rfl rfl (by omega) ?_
      refine SXL.move rfl ?_
      refine SXL.nil ?_
      refine thenQ.normal ?_
      refine ⟨(n + 1, _, _, _), MeetsW.mkP _ ⟨rfl, rfl, trivial⟩ ⟨rfl, rfl, rfl, rfl, rfl, trivial⟩ rfl, ?_, (show u.founts.length - (n + 1) < u.founts.length - n by omega)⟩
      have e3 := take_snocI (l := waterL u week best) (k := n) (by rw [waterL_len]; omega)
      rw [waterL_at (by omega)] at e3
      first
        | exact ⟨by omega, o_31, rfl, by rw [e3, ints_snoc, if_pos c26]; rfl⟩
        | exact ⟨by omega, o_36, rfl, by rw [e3, ints_snoc, if_neg (by rw [c26]; decide)]; rfl⟩
    · refine SX.region ?_
      refine SXL.move rfl ?_
      refine SXL.fieldAddr fp_55_0 rfl ?_
      refine SXL.load1o 3 sh_3 rfl rfl rfl ?_
      refine SXL.buildSlice et_33 zp_3 rfl rfl rfl rfl ?_; intro b4
      refine SXL.append 1 ap_33 rfl rfl ho rfl (.inr ⟨_, _, rfl, Mem.own (i := 4) rfl (takeAt_all _)⟩) rfl rfl ⟨by simp only [maxLen]; omega, by omega⟩ ?_; intro r_36 o_36
      refine SXL.assign rfl ?_
      refine SXL.nil ?_
      refine blockQ.normal ?_
      refine thenQ.normal ?_
      refine SX.region ?_
      refine SXL.add rfl rfl (by omega) ?_
      refine SXL.move rfl ?_
      refine SXL.nil ?_
      refine thenQ.normal ?_
      refine ⟨(n + 1, _, _, _), MeetsW.mkP _ ⟨rfl, rfl, trivial⟩ ⟨rfl, rfl, rfl, rfl, rfl, trivial⟩ rfl, ?_, (show u.founts.length - (n + 1) < u.founts.length - n by omega)⟩
      have e3 := take_snocI (l := waterL u week best) (k := n) (by rw [waterL_len]; omega)
      rw [waterL_at (by omega)] at e3
      first
        | exact ⟨by omega, o_31, rfl, by rw [e3, ints_snoc, if_pos c26]; rfl⟩
        | exact ⟨by omega, o_36, rfl, by rw [e3, ints_snoc, if_neg (by rw [c26]; decide)]; rfl⟩
  · refine SX.exit ?_
    refine thenQ.exit ?_
    refine thenQ.exit ?_
    refine blockQ.exit ?_
    refine thenQ.normal ?_
    refine SX.seq ?_
    refine SX.region ?_
    refine SXL.move rfl ?_
    refine SXL.assign rfl ?_
    refine SXL.nil ?_
    refine thenQ.normal ?_
    refine SX.ret ?_
    refine retQ.sel [1] rfl rfl ?_
    refine retQ.one (ResAt.tmp rfl) ?_
    obtain rfl : n = u.founts.length := by omega
    have e4 : (waterL u week best).take u.founts.length = waterL u week best := List.take_of_length_le (by rw [waterL_len]; omega)
    rw [e4] at ho ⊢
    exact ⟨q, by rw [waterL_len]; exact ho, by rw [waterL_len], rfl⟩
theorem has_any (b i : Nat) (hb : b ≤ 10000) (hi : i ≤ 60) (w : World) :
    CallsR Tryd.prog 97 [.int .i64 ((b : Int)), .int .i64 ((i : Int))] w (fun v _ => v = .bool (decide (hasI b i))) := by
  have hbi : b / 2 ^ i ≤ b := Nat.div_le_self _ _
  refine CallsR.of_SX (n := 10) (rs := [.tmp 4]) Tryd.func97 rfl rfl rfl rfl ?_
  show SX _ _ _ ⟨[(0, .int .i64 ((b : Int))), (1, .int .i64 ((i : Int)))], [], []⟩
  refine SX.seq ?_
  refine SX.region ?_
  refine SXL.assign rfl ?_
  refine SXL.nil ?_
  refine thenQ.normal ?_
  refine SX.seq ?_
  refine SX.region ?_
  refine SXL.move rfl ?_
  refine SXL.move rfl ?_
  refine SXL.shrN rfl rfl (by omega) ?_
  refine SXL.and1 rfl rfl (by omega) ?_
  refine SXL.eqlI rfl rfl ?_
  refine SXL.assign rfl ?_
  refine SXL.nil ?_
  refine thenQ.normal ?_
  refine SX.ret ?_
  refine retQ.one (ResAt.tmp rfl) ?_
  exact congrArg Value.bool (decide_eq_decide.2 (by unfold hasI; omega))
theorem rsum_any (b : Nat) (L : List Int) (lo : Option Addr) (lc : Nat) (hb : b ≤ 10000) (hln : L.length ≤ 20) (hLs : Sm L) (w : World) (h1 : RowsAt w lo 1 (ones L)) :
    CallsR Tryd.prog 76 [.int .i64 ((b : Int)), .slice lo L.length lc] w (fun v _ => v = .int .i64 (sumB b L)) := by
  refine CallsR.of_SX (n := 23) (rs := [.tmp 4]) Tryd.func76 rfl rfl rfl rfl ?_
  show SX _ _ _ ⟨[(0, .int .i64 ((b : Int))), (1, .slice lo L.length lc)], [], []⟩
  refine SX.seq ?_
  refine SX.region ?_
  refine SXL.assign rfl ?_
  refine SXL.nil ?_
  refine thenQ.normal ?_
  refine SX.seq ?_
  refine SX.region ?_
  refine SXL.assign rfl ?_
  refine SXL.nil ?_
  refine thenQ.normal ?_
  refine SX.seq ?_
  refine SX.seq ?_
  refine SX.region ?_
  refine SXL.assign rfl ?_
  refine SXL.nil ?_
  refine thenQ.normal ?_
  refine SX.block ?_
  refine SX.loopG (α := Nat × Int) [0, 1, 4] rfl (fun ⟨k, nn⟩ => [(6, .int .i64 ((k : Int))), (5, .int .i64 nn)]) (fun ⟨k, nn⟩ => []) (fun ⟨k, nn⟩ => k ≤ L.length ∧ nn = T.sumTo b L k) (fun ⟨k, nn⟩ => L.length - k) (0, 0) ⟨Nat.zero_le _, rfl⟩ ⟨rfl, rfl, trivial⟩ rfl ?_
  rintro ⟨k, nn⟩ ⟨hk, rfl⟩
  have hsb := sumTo_in (b := b) hLs k
  have hlk := hLs k
  refine SX.seq ?_
  refine SX.seq ?_
  refine SX.region ?_
  refine SXL.move rfl ?_
  refine SXL.move rfl ?_
  refine SXL.len is_33 rfl ?_
  refine SXL.lss rfl rfl ?_
  refine SXL.nil ?_
  refine thenQ.normal ?_
  refine SX.condP rfl (fun c10 => ?_) (fun c10 => ?_)
  · refine SX.skip ?_
    refine thenQ.normal ?_
    refine SX.seq ?_
    refine SX.block ?_
    refine SX.seq ?_
    refine SX.region ?_
    refine SXL.move rfl ?_
    refine SXL.move rfl ?_
    refine SXL.call1 (.bool (decide (hasI b k))) fn_97 rfl (fun w hI => has_any b k (by omega) (by omega) w) ?_
    refine SXL.nil ?_
    refine thenQ.normal ?_
    refine SX.condP rfl (fun c15 => ?_) (fun c15 => ?_)
    · obtain ⟨bb, o, ha, hm⟩ := oneI h1 (i := k) (by omega)
      refine SX.region ?_
      refine SXL.move rfl ?_
      refine SXL.move rfl ?_
      refine SXL.move rfl ?_
      refine SXL.indexR el_33 rfl rfl ha (by omega) ?_
      refine SXL.load1 sh_3 rfl (hm _) ?_
      refine SXL.add rfl rfl (by omega) ?_
      refine SXL.assign rfl ?_
      refine SXL.nil ?_
      refine blockQ.normal ?_
      refine thenQ.normal ?_
      refine SX.region ?_
      refine SXL.move rfl ?_
      refine SXL.add rfl rfl (by omega) ?_
      refine SXL.assign rfl ?_
      refine SXL.nil ?_
      refine thenQ.normal ?_
      refine ⟨(k + 1, _), Meets.mk _ ⟨rfl, rfl, trivial⟩ ⟨rfl, rfl, rfl, trivial⟩ rfl, ⟨by omega, ?_⟩, (show L.length - (k + 1) < L.length - k by omega)⟩
      first
        | (rw [T.sumTo, if_pos c15])
        | (rw [T.sumTo, if_neg c15])
    · refine SX.skip ?_
      refine blockQ.normal ?_
      refine thenQ.normal ?_
      refine SX.region ?_
      refine SXL.move rfl ?_
      refine SXL.add rfl rfl (by omega) ?_
      refine SXL.assign rfl ?_
      refine SXL.nil ?_
      refine thenQ.normal ?_
      refine ⟨(k + 1, _), Meets.mk _ ⟨rfl, rfl, trivial⟩ ⟨rfl, rfl, rfl, trivial⟩ rfl, ⟨by omega, ?_⟩, (show L.length - (k + 1) < L.length - k by omega)⟩
      first
        | (rw [T.sumTo, if_pos c15])
        | (rw [T.sumTo, if_neg c15])
  · refine SX.exit ?_
    refine thenQ.exit ?_
    refine thenQ.exit ?_
    refine blockQ.exit ?_
    refine thenQ.normal ?_
    refine SX.seq ?_
    obtain rfl : k = L.length := by omega
    refine SX.region ?_
    refine SXL.move rfl ?_
    refine SXL.assign rfl ?_
    refine SXL.nil ?_
    refine thenQ.normal ?_
    refine SX.ret ?_
    refine retQ.one (ResAt.tmp rfl) ?_
    rfl
set_option maxHeartbeats 1000000 in
theorem rthere_any (u : Su) (fo so : Option Addr) (fc sc : Nat) (fa : Nat → FA) (sa : Nat → DA) (b : Nat) (W : List Int) (wo : Option Addr) (wc : Nat) (hb : b ≤ 10000) (hW : W.length = u.founts.length) (hWs : Sm W) (hl : LitP u) (w : World) (hs : SuAt w u fo so fa sa) (hwo : RowsAt w wo 1 (ones W)) :
    CallsR Tryd.prog 77 [.agg ⟨[.slice fo u.founts.length fc, .slice so u.streets.length sc]⟩, .int .i64 ((b : Int)), .slice wo W.length wc] w (fun v _ => v = .int .i64 (thr u b W)) := by
  have hL0 := hl.1
  have hL1 := hl.2.1
  have hL2 := hl.2.2
  refine CallsR.of_SX (n := 61) (rs := [.tmp 6]) Tryd.func77 rfl rfl rfl rfl ?_
  show SX _ _ _ ⟨[(0, .agg ⟨[.slice fo u.founts.length fc, .slice so u.streets.length sc]⟩), (1, .int .i64 ((b : Int))), (2, .slice wo W.length wc)], [], []⟩
  refine SX.seq ?_
  refine SX.region ?_
  refine SXL.box rfl rfl ?_; intro b0
  refine SXL.assign rfl ?_
  refine SXL.nil ?_
  refine thenQ.normal ?_
  refine SX.seq ?_
  refine SX.region ?_
  refine SXL.assign rfl ?_
  refine SXL.nil ?_
  refine thenQ.normal ?_
  refine SX.seq ?_
  refine SX.seq ?_
  refine SX.region ?_
  refine SXL.fieldAddr fp_25_0 rfl ?_
  refine SXL.load1o 0 sh_22 rfl rfl rfl ?_
  refine SXL.len is_22 rfl ?_
  refine SXL.move rfl ?_
  refine SXL.nil ?_
  refine thenQ.normal ?_
  refine SX.block ?_
  refine SX.loopW (α := Nat × Int) [1, 2, 3, 6, 16, 17] rfl (fun ⟨k, nn⟩ => [(18, .int .i64 ((k : Int))), (7, .int .i64 nn)]) (fun ⟨k, nn⟩ => [(b0, .cells ⟨[.slice fo u.founts.length fc, .slice so u.streets.length sc]⟩ 25 (0, 0))]) (fun ⟨k, nn⟩ => []) (fun ⟨k, nn⟩ => k ≤ u.founts.length ∧ nn = thrTo u b W k) (fun ⟨k, nn⟩ => u.founts.length - k) (0, 0) ⟨Nat.zero_le _, rfl⟩ ⟨rfl, rfl, trivial⟩ rfl ?_
  rintro ⟨k, nn⟩ ⟨hk, rfl⟩
  have hsb := thrTo_in (u := u) (b := b) hWs k
  have hlk := hWs k
  refine SX.seq ?_
  refine SX.region ?_
  refine SXL.lss rfl rfl ?_
  refine SXL.nil ?_
  refine thenQ.normal ?_
  refine SX.seq ?_
  refine SX.condP rfl (fun c19 => ?_) (fun c19 => ?_)
  · refine SX.skip ?_
    refine thenQ.normal ?_
    refine SX.seq ?_
    refine SX.block ?_
    refine SX.seq ?_
    obtain ⟨bf, of, ha, hm⟩ := hs.fount (i := k) (by omega)
    refine SX.region ?_
    refine SXL.move rfl ?_
    refine SXL.indexR el_22 rfl rfl ha (by omega) ?_
    refine SXL.loadN sh_70 rfl (hm _) rfl ?_
    refine SXL.alloc zp_70 ?_; intro b1
    refine SXL.assign rfl ?_
    refine SXL.store 1 sz_70 rfl rfl rfl rfl rfl rfl ?_
    refine SXL.nil ?_
    refine thenQ.normal ?_
    refine SX.seq ?_
    refine SX.region ?_
    refine SXL.assign rfl ?_
    refine SXL.nil ?_
    refine thenQ.normal ?_
    refine SX.seq ?_
    refine SX.seq ?_
    refine SX.region ?_
    refine SXL.fieldAddr fp_25_1 rfl ?_
    refine SXL.load1o 0 sh_23 rfl rfl rfl ?_
    refine SXL.len is_23 rfl ?_
    refine SXL.move rfl ?_
    refine SXL.nil ?_
    refine thenQ.normal ?_
    refine SX.block ?_
    refine SX.loopW (α := Nat) [1, 2, 3, 6, 7, 8, 9, 16, 17, 18, 24, 25] rfl (fun i => [(26, .int .i64 ((i : Int))), (10, .bool (decide (opnB u b (u.founts.getD k default).id i)))]) (fun i => [(b0, .cells ⟨[.slice fo u.founts.length fc, .slice so u.streets.length sc]⟩ 25 (0, 0)), (b1, .cells ⟨foC (u.founts.getD k default) (fa k)⟩ 70 (0, 0))]) (fun i => []) (fun i => i ≤ u.streets.length) (fun i => u.streets.length - i) 0 (Nat.zero_le _) ⟨rfl, rfl, trivial⟩ rfl ?_
    rintro i hi
    refine SX.seq ?_
    refine SX.region ?_
    refine SXL.lss rfl rfl ?_
    refine SXL.nil ?_
    refine thenQ.normal ?_
    refine SX.seq ?_
    refine SX.condP rfl (fun c27 => ?_) (fun c27 => ?_)
    · refine SX.skip ?_
      refine thenQ.normal ?_
      refine SX.seq ?_
      refine SX.block ?_
      refine SX.seq ?_
      obtain ⟨bs, os, has_, hms⟩ := hs.street (i := i) (by omega)
      have hLk := hL2 i (by omega)
      refine SX.region ?_
      refine SXL.move rfl ?_
      refine SXL.indexR el_23 rfl rfl has_ (by omega) ?_
      refine SXL.loadN sh_73 rfl (hms _) rfl ?_
      refine SXL.alloc zp_73 ?_; intro b2
      refine SXL.assign rfl ?_
      refine SXL.store 2 sz_73 rfl rfl rfl rfl rfl rfl ?_
      refine SXL.nil ?_
      refine thenQ.normal ?_
      refine SX.seq ?_
      refine SX.region ?_
      refine SXL.fieldAddr fp_73_3 rfl ?_
      refine SXL.load1o 2 sh_33 rfl rfl rfl ?_
      refine SXL.len is_33 rfl ?_
      refine SXL.move rfl ?_
      refine SXL.nil ?_
      refine thenQ.normal ?_
      refine SX.block ?_
      refine SX.loopW (α := Nat) [1, 2, 3, 6, 7, 8, 9, 11, 16, 17, 18, 24, 25, 26, 32, 33] rfl (fun j => [(34, .int .i64 ((j : Int))), (10, .bool (decide (opnB u b (u.founts.getD k default).id i ∨ (hasI b i ∧ (u.founts.getD k default).id ∈ (u.streets.getD i default).draws.take j))))]) (fun j => [(b0, .cells ⟨[.slice fo u.founts.length fc, .slice so u.streets.length sc]⟩ 25 (0, 0)), (b1, .cells ⟨foC (u.founts.getD k default) (fa k)⟩ 70 (0, 0)), (b2, .cells ⟨srC (u.streets.getD i default) (sa i)⟩ 73 (0, 0))]) (fun j => []) (fun j => j ≤ (u.streets.getD i default).draws.length) (fun j => (u.streets.getD i default).draws.length - j) 0 (Nat.zero_le _) ⟨rfl, congrArg (fun z => some (Value.bool z)) (decide_eq_decide.2 ⟨.inl, fun h => h.elim (fun h => h) (fun h => absurd h.2 (by simp))⟩), trivial⟩ rfl ?_
      rintro j hj
      refine SX.seq ?_
      refine SX.region ?_
      refine SXL.lss rfl rfl ?_
      refine SXL.nil ?_
      refine thenQ.normal ?_
      refine SX.seq ?_
      refine SX.condP rfl (fun c35 => ?_) (fun c35 => ?_)
      · refine SX.skip ?_
        refine thenQ.normal ?_
        refine SX.seq ?_
        refine SX.block ?_
        refine SX.seq ?_
        obtain ⟨bd, od, had, hmd⟩ := oneI (hs.draws i (by omega)) (i := j) (by omega)
        refine SX.region ?_
        refine SXL.indexR el_33 rfl rfl had (by omega) ?_
        refine SXL.load1 sh_3 rfl (hmd _) ?_
        refine SXL.assign rfl ?_
        refine SXL.nil ?_
        refine thenQ.normal ?_
        refine SX.region ?_
        refine SXL.move rfl ?_
        refine SXL.move rfl ?_
        apply SXL.orG 9
        case hl => exact rfl
        case hd => exact rfl
        case hg => exact rfl
        case ht =>
          intro g4
          refine SXL.pass rfl rfl rfl ?_
          refine SXL.pass rfl rfl rfl ?_
          refine SXL.pass rfl rfl rfl ?_
          refine SXL.pass rfl rfl rfl ?_
          refine SXL.pass rfl rfl rfl ?_
          refine SXL.pass rfl rfl rfl ?_
          refine SXL.pass rfl rfl rfl ?_
          refine SXL.pass rfl rfl rfl ?_
          refine SXL.pass rfl rfl rfl ?_
          exact SXL.nil (segQ.mk (.skip rfl (.skip rfl (.skip rfl (.skip rfl (.skip rfl (.skip rfl (.skip rfl (.skip rfl (.skip rfl (.skip rfl (EnvSub.refl _))))))))))) rfl rfl rfl)
        case hf =>
          intro g4
          refine SXL.move rfl ?_
          refine SXL.move rfl ?_
          refine SXL.call1 (.bool (decide (hasI b i))) fn_97 rfl (fun w hI => has_any b i (by omega) (by omega) w) ?_
          refine SXL.move rfl ?_
          apply SXL.andG 4
          case hl => exact rfl
          case hd => exact rfl
          case hg => exact rfl
          case ht =>
            intro g5
            refine SXL.move rfl ?_
            refine SXL.fieldAddr fp_70_0 rfl ?_
            refine SXL.load1o 1 sh_3 rfl rfl rfl ?_
            refine SXL.eqlI rfl rfl ?_
            exact SXL.nil (segQ.mk (.skip rfl (.skip rfl (.skip rfl (.skip rfl (.skip rfl (EnvSub.refl _)))))) rfl rfl ⟨rfl, rfl⟩)
          case hf =>
            intro g5
            refine SXL.pass rfl rfl rfl ?_
            refine SXL.pass rfl rfl rfl ?_
            refine SXL.pass rfl rfl rfl ?_
            refine SXL.pass rfl rfl rfl ?_
            exact SXL.nil (segQ.mk (.skip rfl (.skip rfl (.skip rfl (.skip rfl (.skip rfl (EnvSub.refl _)))))) rfl rfl rfl)
          exact SXL.nil (segQ.mk (.skip rfl (.skip rfl (.skip rfl (.skip rfl (.skip rfl (EnvSub.refl _)))))) rfl rfl ⟨rfl, rfl⟩)
        refine SXL.assign rfl ?_
        refine SXL.nil ?_
        refine blockQ.normal ?_
        refine thenQ.normal ?_
        refine SX.region ?_
        refine SXL.add rfl rfl (by omega) ?_
        refine SXL.move rfl ?_
        refine SXL.nil ?_
        refine thenQ.normal ?_
        refine ⟨j + 1, MeetsW.mkP _ ⟨rfl, congrArg (fun z => some (Value.bool z)) (decide_eq_decide.2 (by rw [mem_take_snoc (show j < (u.streets.getD i default).draws.length by omega)]; exact ⟨fun h => h.elim (fun h => h.elim .inl (fun h => .inr ⟨h.1, .inl h.2⟩)) (fun h => .inr ⟨h.1, .inr h.2.symm⟩), fun h => h.elim (fun h => .inl (.inl h)) (fun h => h.2.elim (fun g => .inl (.inr ⟨h.1, g⟩)) (fun g => .inr ⟨h.1, g.symm⟩))⟩)), trivial⟩ ⟨rfl, rfl, rfl, rfl, rfl, rfl, rfl, rfl, rfl, rfl, rfl, rfl, rfl, rfl, rfl, rfl, trivial⟩ rfl, (by omega), (by omega)⟩
      · refine SX.exit ?_
        refine thenQ.exit ?_
        refine thenQ.exit ?_
        refine blockQ.exit ?_
        refine blockQ.normal ?_
        refine thenQ.normal ?_
        refine SX.region ?_
        refine SXL.add rfl rfl (by omega) ?_
        refine SXL.move rfl ?_
        refine SXL.nil ?_
        refine thenQ.normal ?_
        refine ⟨i + 1, MeetsW.mkP _ ⟨rfl, congrArg (fun z => some (Value.bool z)) (decide_eq_decide.2 (by rw [List.take_of_length_le (by omega)]; rfl)), trivial⟩ ⟨rfl, rfl, rfl, rfl, rfl, rfl, rfl, rfl, rfl, rfl, rfl, rfl, trivial⟩ rfl, (by omega), (by omega)⟩
    · refine SX.exit ?_
      refine thenQ.exit ?_
      refine thenQ.exit ?_
      refine blockQ.exit ?_
      refine thenQ.normal ?_
      refine SX.seq ?_
      obtain rfl : i = u.streets.length := by omega
      refine SX.region ?_
      refine SXL.move rfl ?_
      refine SXL.nil ?_
      refine thenQ.normal ?_
      refine SX.condP rfl (fun c52 => ?_) (fun c52 => ?_)
      · obtain ⟨bw, ow, haw, hmw⟩ := oneI hwo (i := k) (by omega)
        refine SX.region ?_
        refine SXL.move rfl ?_
        refine SXL.move rfl ?_
        refine SXL.move rfl ?_
        refine SXL.indexR el_33 rfl rfl haw (by omega) ?_
        refine SXL.load1 sh_3 rfl (hmw _) ?_
        refine SXL.add rfl rfl (by omega) ?_
        refine SXL.assign rfl ?_
        refine SXL.nil ?_
        refine blockQ.normal ?_
        refine thenQ.normal ?_
        refine SX.region ?_
        refine SXL.add rfl rfl (by omega) ?_
        refine SXL.move rfl ?_
        refine SXL.nil ?_
        refine thenQ.normal ?_
        refine ⟨(k + 1, _), MeetsW.mkP _ ⟨rfl, rfl, trivial⟩ ⟨rfl, rfl, rfl, rfl, rfl, rfl, trivial⟩ rfl, ⟨by omega, ?_⟩, (show u.founts.length - (k + 1) < u.founts.length - k by omega)⟩
        first
          | (rw [thrTo, if_pos c52])
          | (rw [thrTo, if_neg c52])
      · refine SX.skip ?_
        refine blockQ.normal ?_
        refine thenQ.normal ?_
        refine SX.region ?_
        refine SXL.add rfl rfl (by omega) ?_
        refine SXL.move rfl ?_
        refine SXL.nil ?_
        refine thenQ.normal ?_
        refine ⟨(k + 1, _), MeetsW.mkP _ ⟨rfl, rfl, trivial⟩ ⟨rfl, rfl, rfl, rfl, rfl, rfl, trivial⟩ rfl, ⟨by omega, ?_⟩, (show u.founts.length - (k + 1) < u.founts.length - k by omega)⟩
        first
          | (rw [thrTo, if_pos c52])
          | (rw [thrTo, if_neg c52])
  · refine SX.exit ?_
    refine thenQ.exit ?_
    refine thenQ.exit ?_
    refine blockQ.exit ?_
    refine thenQ.normal ?_
    refine SX.seq ?_
    obtain rfl : k = u.founts.length := by omega
    refine SX.region ?_
    refine SXL.move rfl ?_
    refine SXL.assign rfl ?_
    refine SXL.nil ?_
    refine thenQ.normal ?_
    refine SX.ret ?_
    refine retQ.one (ResAt.tmp rfl) ?_
    rfl
theorem rcan_any (u : Su) (fo so : Option Addr) (fc sc : Nat) (fa : Nat → FA) (sa : Nat → DA) (W L : List Int) (wo lo : Option Addr) (wc lc : Nat) (hW : W.length = u.founts.length) (hWs : Sm W) (hLn : L.length ≤ 5) (hLs : Sm L) (hl : LitP u) (w : World) (hs : SuAt w u fo so fa sa) (hwo : RowsAt w wo 1 (ones W)) (hlo : RowsAt w lo 1 (ones L)) :
    CallsR Tryd.prog 58 [.agg ⟨[.slice fo u.founts.length fc, .slice so u.streets.length sc]⟩, .slice wo W.length wc, .slice lo L.length lc] w (fun v _ => v = .bool (decide (CanP u W L))) := by
  have hpw : (2 : Nat) ^ L.length ≤ 32 := Nat.le_trans (Nat.pow_le_pow_right (by omega) hLn) (by decide)
  refine CallsR.of_SX (n := 23) (rs := [.tmp 6]) Tryd.func58 rfl rfl rfl rfl ?_
  show SX _ _ _ ⟨[(0, .agg ⟨[.slice fo u.founts.length fc, .slice so u.streets.length sc]⟩), (1, .slice wo W.length wc), (2, .slice lo L.length lc)], [], []⟩
  refine SX.seq ?_
  refine SX.region ?_
  refine SXL.box rfl rfl ?_; intro b0
  refine SXL.assign rfl ?_
  refine SXL.nil ?_
  refine thenQ.normal ?_
  refine SX.seq ?_
  refine SX.seq ?_
  refine SX.region ?_
  refine SXL.assign rfl ?_
  refine SXL.nil ?_
  refine thenQ.normal ?_
  refine SX.block ?_
  refine SX.loopW (α := Nat) [1, 2, 3, 6] rfl (fun b => [(7, .int .i64 ((b : Int)))]) (fun b => [(b0, .cells ⟨[.slice fo u.founts.length fc, .slice so u.streets.length sc]⟩ 25 (0, 0))]) (fun b => []) (fun b => b ≤ 2 ^ L.length ∧ ∀ i, i < b → sumB i L ≤ thr u i W) (fun b => 2 ^ L.length - b) 0 ⟨Nat.zero_le _, fun _ h => absurd h (Nat.not_lt_zero _)⟩ ⟨rfl, trivial⟩ rfl ?_
  rintro b ⟨hb, hall⟩
  refine SX.seq ?_
  refine SX.seq ?_
  refine SX.region ?_
  refine SXL.move rfl ?_
  refine SXL.move rfl ?_
  refine SXL.len is_33 rfl ?_
  refine SXL.shlN rfl rfl (by omega) ?_
  refine SXL.lss rfl rfl ?_
  refine SXL.nil ?_
  refine thenQ.normal ?_
  refine SX.condP rfl (fun c12 => ?_) (fun c12 => ?_)
  · refine SX.skip ?_
    refine thenQ.normal ?_
    refine SX.seq ?_
    refine SX.block ?_
    refine SX.seq ?_
    refine SX.draw 8 (by kernel_rfl) (by kernel_rfl) {} ?_
    refine SXA.take 0 8 rfl (by kernel_rfl) rfl ?_
    refine SXL.move rfl ?_
    refine SXL.move rfl ?_
    refine SXL.call1 (.int .i64 (sumB b L)) fn_76 rfl (fun w hI => rsum_any b L lo lc (by omega) (by omega) hLs w (hlo.inv hI)) ?_
    refine SXL.loadNo 0 sh_25 rfl rfl rfl ?_
    refine SXL.move rfl ?_
    refine SXL.move rfl ?_
    refine SXL.call1 (.int .i64 (thr u b W)) fn_77 rfl (fun w hI => rthere_any u fo so fc sc fa sa b W wo wc (by omega) hW hWs hl w (hs.inv hI) (hwo.inv hI)) ?_
    refine SXL.gtr rfl rfl ?_
    refine SXL.nil ⟨rfl, rfl, rfl, ?_⟩
    refine SXA.done (by kernel_rfl) ?_
    refine SXL.nil ?_
    refine thenQ.normal ?_
    refine SX.condP rfl (fun c22 => ?_) (fun c22 => ?_)
    · refine SX.seq ?_
      refine SX.region ?_
      refine SXL.assign rfl ?_
      refine SXL.nil ?_
      refine thenQ.normal ?_
      refine SX.ret ?_
      refine blockQ.ret ?_
      refine thenQ.ret ?_
      refine thenQ.ret ?_
      refine blockQ.ret ?_
      refine thenQ.ret ?_
      refine retQ.one (ResAt.tmp rfl) ?_
      exact congrArg Value.bool (decide_eq_false (by intro h; have := h b (by omega); omega)).symm
    · refine SX.skip ?_
      refine blockQ.normal ?_
      refine thenQ.normal ?_
      refine SX.region ?_
      refine SXL.move rfl ?_
      refine SXL.add rfl rfl (by omega) ?_
      refine SXL.assign rfl ?_
      refine SXL.nil ?_
      refine thenQ.normal ?_
      refine ⟨b + 1, MeetsW.mkP _ ⟨rfl, trivial⟩ ⟨rfl, rfl, rfl, rfl, trivial⟩ rfl, ?_, (by omega)⟩
      refine ⟨by omega, fun i hi => ?_⟩
      by_cases e : i = b
      · subst e; omega
      · exact hall i (by omega)
  · refine SX.exit ?_
    refine thenQ.exit ?_
    refine thenQ.exit ?_
    refine blockQ.exit ?_
    refine thenQ.normal ?_
    refine SX.seq ?_
    refine SX.region ?_
    refine SXL.assign rfl ?_
    refine SXL.nil ?_
    refine thenQ.normal ?_
    refine SX.ret ?_
    refine retQ.one (ResAt.tmp rfl) ?_
    exact congrArg Value.bool (decide_eq_true (fun i hi => hall i (by omega))).symm
end Go.Proofs.YtolcicaclflagaaDoor

/- The walks of the reference of layer 9: the most, leasts, which pint more helps. -/
namespace Go.Proofs.YtolcicaclflagaaDoor
open Go.X Go.S Go.T Go.RowKit
theorem rleasts_any (u : Su) (fo so : Option Addr) (fc sc : Nat) (fa : Nat → FA) (sa : Nat → DA) (hl : LitP u) (w : World) (hs : SuAt w u fo so fa sa) :
    CallsR Tryd.prog 57 [.agg ⟨[.slice fo u.founts.length fc, .slice so u.streets.length sc]⟩] w (IsI (leasts u)) := by
  have hL0 := hl.1
  have hL1 := hl.2.1
  have hL2 := hl.2.2
  refine CallsR.of_SX (n := 20) (rs := [.tmp 2]) Tryd.func57 rfl rfl rfl rfl ?_
  show SX _ _ _ ⟨[(0, .agg ⟨[.slice fo u.founts.length fc, .slice so u.streets.length sc]⟩)], [], []⟩
  refine SX.seq ?_
  refine SX.region ?_
  refine SXL.box rfl rfl ?_; intro b0
  refine SXL.assign rfl ?_
  refine SXL.nil ?_
  refine thenQ.normal ?_
  refine SX.seq ?_
  refine SX.pad (Sl.nil.ent 3 []) rfl ?_
  refine SX.region ?_
  refine SXL.assign rfl ?_
  refine SXL.nil ?_
  refine thenQ.normal ?_
  refine SX.seq ?_
  refine SX.seq ?_
  refine SX.region ?_
  refine SXL.fieldAddr fp_25_1 rfl ?_
  refine SXL.load1o 0 sh_23 rfl rfl rfl ?_
  refine SXL.len is_23 rfl ?_
  refine SXL.move rfl ?_
  refine SXL.nil ?_
  refine thenQ.normal ?_
  refine SX.block ?_
  refine SX.loopW (α := Nat × Sl × Nat × List Value) [2, 7, 8] rfl (fun ⟨k, q, n, c⟩ => [(9, .int .i64 ((k : Int))), (3, q.val n)]) (fun ⟨k, q, n, c⟩ => [(b0, .cells ⟨[.slice fo u.founts.length fc, .slice so u.streets.length sc]⟩ 25 (0, 0)), q.ent 3 c]) (fun ⟨k, q, n, c⟩ => []) (fun ⟨k, q, n, c⟩ => k ≤ u.streets.length ∧ q.Ok n 1 c ∧ n = k ∧ c = ints ((leasts u).take k)) (fun ⟨k, q, n, c⟩ => u.streets.length - k) (0, Sl.nil, 0, []) ⟨Nat.zero_le _, .none _, rfl, rfl⟩ ⟨rfl, rfl, trivial⟩ rfl ?_
  rintro ⟨k, q, n, c⟩ ⟨hk, ho, rfl, rfl⟩
  refine SX.seq ?_
  refine SX.region ?_
  refine SXL.lss rfl rfl ?_
  refine SXL.nil ?_
  refine thenQ.normal ?_
  refine SX.seq ?_
  refine SX.condP rfl (fun c10 => ?_) (fun c10 => ?_)
  · refine SX.skip ?_
    refine thenQ.normal ?_
    refine SX.seq ?_
    refine SX.block ?_
    refine SX.seq ?_
    obtain ⟨b, o, ha, hm⟩ := hs.street (i := n) (by omega)
    refine SX.region ?_
    refine SXL.indexR el_23 rfl rfl ha (by omega) ?_
    refine SXL.loadN sh_73 rfl (hm _) rfl ?_
    refine SXL.alloc zp_73 ?_; intro b2
    refine SXL.store 2 sz_73 rfl rfl rfl rfl rfl rfl ?_
    refine SXL.nil ?_
    refine thenQ.normal ?_
    refine SX.region ?_
    refine SXL.move rfl ?_
    refine SXL.fieldAddr fp_73_2 rfl ?_
    refine SXL.load1o 2 sh_3 rfl rfl rfl ?_
    refine SXL.buildSlice et_33 zp_3 rfl rfl rfl rfl ?_; intro b3
    refine SXL.append 1 ap_33 rfl rfl ho rfl (.inr ⟨_, _, rfl, Mem.own (i := 3) rfl (takeAt_all _)⟩) rfl rfl ⟨by simp only [maxLen]; omega, by omega⟩ ?_; intro r_17 o_17
    refine SXL.assign rfl ?_
    refine SXL.nil ?_
    refine blockQ.normal ?_
    refine thenQ.normal ?_
    refine SX.region ?_
    refine SXL.add rfl rfl (by omega) ?_
    refine SXL.move rfl ?_
    refine SXL.nil ?_
    refine thenQ.normal ?_
    refine ⟨(n + 1, _, _, _), MeetsW.mkP _ ⟨rfl, rfl, trivial⟩ ⟨rfl, rfl, rfl, trivial⟩ rfl, ?_, (show u.streets.length - (n + 1) < u.streets.length - n by omega)⟩
    have e3 := take_snocI (l := leasts u) (k := n) (by rw [leasts_len]; omega)
    rw [leasts_at (by omega)] at e3
    exact ⟨by omega, o_17, rfl, by rw [e3, ints_snoc]; rfl⟩
  · refine SX.exit ?_
    refine thenQ.exit ?_
    refine thenQ.exit ?_
    refine blockQ.exit ?_
    refine thenQ.normal ?_
    refine SX.seq ?_
    refine SX.region ?_
    refine SXL.move rfl ?_
    refine SXL.assign rfl ?_
    refine SXL.nil ?_
    refine thenQ.normal ?_
    refine SX.ret ?_
    refine retQ.sel [1] rfl rfl ?_
    refine retQ.one (ResAt.tmp rfl) ?_
    obtain rfl : n = u.streets.length := by omega
    have e4 : (leasts u).take u.streets.length = leasts u := List.take_of_length_le (by rw [leasts_len]; omega)
    rw [e4] at ho ⊢
    exact ⟨q, by rw [leasts_len]; exact ho, by rw [leasts_len], rfl⟩
end Go.Proofs.YtolcicaclflagaaDoor

/- How many pints more are enough: counted up. Nothing of Go stands here. -/
namespace Go.T
open Go Go.S Go.X
/-- With so many pints more there is enough just if each set that lacks can draw from there, and none lacks more. -/
def MoFin (u : Su) (week id : Int) : Prop := ∀ n : Nat, CanP u ((waterL u week false).set (fountI u id).toNat ((waterL u week false).getD (fountI u id).toNat 0 + (n : Int))) (needs u false) ↔ (MoOk u (waterL u week false) (needs u false) id ∧ maxL u (waterL u week false) (needs u false) (2 ^ u.streets.length) ≤ n)
end Go.T

/- The walks of the reference of layer 9: proofs, how many pints more. -/
namespace Go.Proofs.YtolcicaclflagaaDoor
open Go.X Go.S Go.T Go.RowKit
end Go.Proofs.YtolcicaclflagaaDoor

/- The walks of the reference of layer 9: the fair sharing. -/
namespace Go.Proofs.YtolcicaclflagaaDoor
open Go.X Go.S Go.T Go.RowKit
theorem rcan_l (u : Su) (fo so : Option Addr) (fc sc : Nat) (fa : Nat → FA) (sa : Nat → DA) (W L : List Int) (wo lo : Option Addr) (wn ln wc lc : Nat) (hwn : W.length = wn) (hln : L.length = ln) (hW : W.length = u.founts.length) (hWs : Sm W) (hLn : L.length ≤ 5) (hLs : Sm L) (hl : LitP u) (w : World) (hs : SuAt w u fo so fa sa) (hwo : RowsAt w wo 1 (ones W)) (hlo : RowsAt w lo 1 (ones L)) :
    CallsR Tryd.prog 58 [.agg ⟨[.slice fo u.founts.length fc, .slice so u.streets.length sc]⟩, .slice wo wn wc, .slice lo ln lc] w (fun v _ => v = .bool (decide (CanP u W L))) := by
  subst hwn hln; exact rcan_any u fo so fc sc fa sa W L wo lo wc lc hW hWs hLn hLs hl w hs hwo hlo
set_option maxHeartbeats 4000000 in
theorem rfair_any (u : Su) (fo so : Option Addr) (fc sc : Nat) (fa : Nat → FA) (sa : Nat → DA) (week : Int) (best : Bool) (hl : LitP u) (w : World) (hs : SuAt w u fo so fa sa) :
    CallsR Tryd.prog 23 [.agg ⟨[.slice fo u.founts.length fc, .slice so u.streets.length sc]⟩, .int .i64 week, .bool best] w (LeR (faL u week best) (faE u week best)) := by
  refine CallsR.of_SX (n := 89) (rs := [.tmp 6, .tmp 7]) Tryd.func23 rfl rfl rfl rfl ?_
  show SX _ _ _ ⟨[(0, .agg ⟨[.slice fo u.founts.length fc, .slice so u.streets.length sc]⟩), (1, .int .i64 week), (2, .bool best)], [], []⟩
  refine SX.seq ?_
  refine SX.region ?_
  refine SXL.box rfl rfl ?_; intro b0
  refine SXL.assign rfl ?_
  refine SXL.assign rfl ?_
  refine SXL.nil ?_
  refine thenQ.normal ?_
  refine SX.seq ?_
  refine SX.seq ?_
  refine SX.region ?_
  refine SXL.loadNo 0 sh_25 rfl rfl rfl ?_
  refine SXL.move rfl ?_
  refine SXL.call1 (.int .i64 (askT u (week) True 0)) fn_44 rfl (fun w hI => rasked_any u fo so fc sc fa sa (week) hl w (hs.inv hI)) ?_
  refine SXL.assign rfl ?_
  refine SXL.nil ?_
  refine thenQ.normal ?_
  refine SX.seq ?_
  refine SX.region ?_
  refine SXL.move rfl ?_
  refine SXL.neqI rfl rfl ?_
  refine SXL.nil ?_
  refine thenQ.normal ?_
  refine SX.condP rfl (fun c18 => ?_) (fun c18 => ?_)
  · refine SX.seq ?_
    refine SX.region ?_
    refine SXL.move rfl ?_
    refine SXL.assign rfl ?_
    refine SXL.assign rfl ?_
    refine SXL.nil ?_
    refine thenQ.normal ?_
    refine SX.ret ?_
    refine thenQ.ret ?_
    refine retQ.dead [Sl.nil.ent 3 []] rfl ?_
    refine retQ.two (ResAt.tmp rfl) (ResAt.tmp rfl) ?_
    obtain ⟨e1, e2⟩ := fair_err (best := best) c18
    exact LeR.errs e2 e1.symm
  · refine SX.skip ?_
    refine thenQ.normal ?_
    refine SX.seq ?_
    have he := Classical.not_not.1 c18
    obtain ⟨hv, hw, _, ht⟩ := askT_ok (fun h => absurd trivial h) he
    have hz := hv.1
    unfold SizeP at hz
    have hn0 := leasts_len u
    refine SX.draw 8 (by kernel_rfl) (by kernel_rfl) {} ?_
    refine SXA.take 0 3 rfl (by kernel_rfl) rfl ?_
    refine SXL.loadNo 0 sh_25 rfl rfl rfl ?_
    refine SXL.move rfl ?_
    refine SXL.move rfl ?_
    refine SXL.nil ⟨rfl, rfl, rfl, ?_⟩
    refine SXA.take 4 1 rfl (by kernel_rfl) rfl ?_
    refine SXL.loadNo 0 sh_25 rfl rfl rfl ?_
    refine SXL.nil ⟨rfl, rfl, rfl, ?_⟩
    refine SXA.all [3] (by kernel_rfl) rfl ⟨⟨?_, rfl⟩, trivial⟩
    refine (show SXL _ _ [_] _ _ from ?_)
    refine SXL.callF (IsI (waterL u (week) (best))) fn_45 rfl (fun w hI => given_any u fo so fc sc fa sa (week) (best) hl w (hs.inv hI)) ?_; rintro _ _ ⟨qw, ow, rfl, rfl⟩
    refine SXL.nil (stepQ.mk _ rfl rfl ?_)
    refine SXA.all [5] (by kernel_rfl) rfl ⟨⟨?_, rfl⟩, trivial⟩
    refine (show SXL _ _ [_] _ _ from ?_)
    refine SXL.callF (IsI (leasts u)) fn_57 rfl (fun w hI => rleasts_any u fo so fc sc fa sa hl w (hs.inv hI)) ?_; rintro _ _ ⟨ql, ol, rfl, rfl⟩
    refine SXL.nil (stepQ.mk _ rfl rfl ?_)
    refine SXA.take 6 2 rfl (by kernel_rfl) rfl ?_
    refine SXL.assign rfl ?_
    refine SXL.assign rfl ?_
    refine SXL.nil ⟨rfl, rfl, rfl, ?_⟩
    refine SXA.done (by kernel_rfl) ?_
    refine SXL.nil ?_
    refine thenQ.normal ?_
    refine SX.seq ?_
    refine SX.seq ?_
    refine SX.region ?_
    refine SXL.loadNo 0 sh_25 rfl rfl rfl ?_
    refine SXL.move rfl ?_
    refine SXL.move rfl ?_
    refine SXL.call1 (.bool (decide (CanP u (waterL u week best) (leasts u)))) fn_58 rfl (fun w hI => rcan_any u fo so fc sc fa sa (waterL u week best) (leasts u) qw.addr ql.addr qw.cap ql.cap (waterL_len u _ _) (water_sm hv ht hw _) (by rw [leasts_len]; omega) (leasts_sm hv) hl w (hs.inv hI) (slOnes hI ow (i := 1) rfl) (slOnes hI ol (i := 2) rfl)) ?_
    refine SXL.not rfl ?_
    refine SXL.nil ?_
    refine thenQ.normal ?_
    refine SX.condP rfl (fun c30 => ?_) (fun c30 => ?_)
    · refine SX.seq ?_
      refine SX.region ?_
      refine SXL.assign rfl ?_
      refine SXL.assign rfl ?_
      refine SXL.nil ?_
      refine thenQ.normal ?_
      refine SX.ret ?_
      refine thenQ.ret ?_
      refine retQ.dead [Sl.nil.ent 3 []] rfl ?_
      refine retQ.two (ResAt.tmp rfl) (ResAt.tmp rfl) ?_
      obtain ⟨e1, e2⟩ := fair_none he c30
      exact LeR.errs e2 e1.symm
    · refine SX.skip ?_
      refine thenQ.normal ?_
      refine SX.block ?_
      refine SX.loopW (α := List Int) [3, 6, 7, 9, 10] rfl (fun l => []) (fun l => [(b0, .cells ⟨[.slice fo u.founts.length fc, .slice so u.streets.length sc]⟩ 25 (0, 0)), qw.ent 3 (ints (waterL u week best)), ql.ent 3 (ints (l))]) (fun l => []) (fun l => InP u l ∧ RchP u (waterL u week best) (leasts u) l) (fun l => roomTo u l u.streets.length) (leasts u) ⟨InP.leasts hv, RchP.refl _ _ _⟩ trivial rfl ?_
      rintro l ⟨hin, hrch⟩
      have hll : l.length = (leasts u).length := by have := hin.len; omega
      refine SX.block ?_
      refine SX.seq ?_
      refine SX.region ?_
      refine SXL.assign rfl ?_
      refine SXL.nil ?_
      refine thenQ.normal ?_
      refine SX.seq ?_
      refine SX.seq ?_
      refine SX.region ?_
      refine SXL.fieldAddr fp_25_1 rfl ?_
      refine SXL.load1o 0 sh_23 rfl rfl rfl ?_
      refine SXL.len is_23 rfl ?_
      refine SXL.move rfl ?_
      refine SXL.nil ?_
      refine thenQ.normal ?_
      refine SX.block ?_
      refine SX.loopW (α := Nat × Int) [3, 6, 7, 9, 10, 32, 33] rfl (fun ⟨k, nx⟩ => [(34, .int .i64 ((k : Int))), (11, .int .i64 nx)]) (fun ⟨k, nx⟩ => [(b0, .cells ⟨[.slice fo u.founts.length fc, .slice so u.streets.length sc]⟩ 25 (0, 0)), qw.ent 3 (ints (waterL u week best)), ql.ent 3 (ints (l))]) (fun ⟨k, nx⟩ => []) (fun ⟨k, nx⟩ => k ≤ u.streets.length ∧ nx = oI (poorTo (UpP u (waterL u week best) l) l k)) (fun ⟨k, nx⟩ => u.streets.length - k) (0, -1) ⟨Nat.zero_le _, rfl⟩ ⟨rfl, rfl, trivial⟩ rfl ?_
      rintro ⟨k, nx⟩ ⟨hk, hnx⟩
      refine SX.seq ?_
      refine SX.region ?_
      refine SXL.lss rfl rfl ?_
      refine SXL.nil ?_
      refine thenQ.normal ?_
      refine SX.seq ?_
      refine SX.condP rfl (fun c35 => ?_) (fun c35 => ?_)
      · refine SX.skip ?_
        refine thenQ.normal ?_
        refine SX.seq ?_
        refine SX.block ?_
        refine SX.seq ?_
        obtain ⟨bs, os, has_, hms⟩ := hs.street (i := k) (by omega)
        have hnk := hin.in_ k (by omega)
        have hoi := oI_lt (p := UpP u (waterL u week best) l) (l := l) (k := k)
        rw [← hnx] at hoi
        have hlk : (l.set k (l.getD k 0 + 1)).length = (leasts u).length := by rw [List.length_set]; exact hll
        refine SX.region ?_
        refine SXL.move rfl ?_
        refine SXL.indexR el_23 rfl rfl has_ (by omega) ?_
        refine SXL.loadN sh_73 rfl (hms _) rfl ?_
        refine SXL.alloc zp_73 ?_; intro b3
        refine SXL.assign rfl ?_
        refine SXL.store 3 sz_73 rfl rfl rfl rfl rfl rfl ?_
        refine SXL.nil ?_
        refine thenQ.normal ?_
        refine SX.seq ?_
        refine SX.seq ?_
        refine SX.draw 23 (by kernel_rfl) (by kernel_rfl) {} ?_
        refine SXA.take 0 23 rfl (by kernel_rfl) rfl ?_
        refine SXL.move rfl ?_
        refine SXL.move rfl ?_
        refine SXL.indexSl 2 el_33 rfl rfl (by omega) rfl (ol.list hll) ?_; intro x1 hx1
        refine SXL.loadSl1 2 (v := .int .i64 (l.getD k 0)) sh_3 rfl hx1 rfl (ol.list hll) (intsAtX (i := k) (by simp) (by omega)) ?_
        refine SXL.fieldAddr fp_73_1 rfl ?_
        refine SXL.fieldAddr fp_55_1 rfl ?_
        refine SXL.load1o 3 sh_3 rfl rfl rfl ?_
        refine SXL.eqlI rfl rfl ?_
        refine SXL.move rfl ?_
        apply SXL.orG 13
        case hl => exact rfl
        case hd => exact rfl
        case hg => exact rfl
        case ht =>
          intro c61
          refine SXL.pass rfl rfl rfl ?_
          refine SXL.pass rfl rfl rfl ?_
          refine SXL.pass rfl rfl rfl ?_
          refine SXL.pass rfl rfl rfl ?_
          refine SXL.pass rfl rfl rfl ?_
          refine SXL.pass rfl rfl rfl ?_
          refine SXL.pass rfl rfl rfl ?_
          refine SXL.pass rfl rfl rfl ?_
          refine SXL.pass rfl rfl rfl ?_
          refine SXL.pass rfl rfl rfl ?_
          refine SXL.pass rfl rfl rfl ?_
          refine SXL.pass rfl rfl rfl ?_
          refine SXL.pass rfl rfl rfl ?_
          exact SXL.nil (segQ.mk (.skip rfl (.skip rfl (.skip rfl (.skip rfl (.skip rfl (.skip rfl (.skip rfl (.skip rfl (.skip rfl (.skip rfl (.skip rfl (.skip rfl (.skip rfl (.skip rfl (EnvSub.refl _))))))))))))))) rfl rfl rfl)
        case hf =>
          intro c61
          refine SXL.move rfl ?_
          refine SXL.geq rfl rfl ?_
          refine SXL.move rfl ?_
          apply SXL.andG 9
          case hl => exact rfl
          case hd => exact rfl
          case hg => exact rfl
          case ht =>
            intro c60
            refine SXL.move rfl ?_
            refine SXL.move rfl ?_
            refine SXL.indexSl 2 el_33 rfl rfl (by omega) rfl (ol.list hll) ?_; intro x2 hx2
            refine SXL.loadSl1 2 (v := .int .i64 (l.getD k 0)) sh_3 rfl hx2 rfl (ol.list hll) (intsAtX (i := k) (by simp) (by omega)) ?_
            refine SXL.move rfl ?_
            refine SXL.move rfl ?_
            refine SXL.indexSl 2 el_33 rfl rfl (by omega) rfl (ol.list hll) ?_; intro x3 hx3
            refine SXL.loadSl1 2 (v := .int .i64 (l.getD nx.toNat 0)) sh_3 rfl hx3 rfl (ol.list hll) (intsAtX (i := nx.toNat) (by simp) (by omega)) ?_
            refine SXL.geq rfl rfl ?_
            exact SXL.nil (segQ.mk (.skip rfl (.skip rfl (.skip rfl (.skip rfl (.skip rfl (.skip rfl (.skip rfl (.skip rfl (.skip rfl (.skip rfl (EnvSub.refl _))))))))))) rfl rfl ⟨rfl, rfl⟩)
          case hf =>
            intro c60
            refine SXL.pass rfl rfl rfl ?_
            refine SXL.pass rfl rfl rfl ?_
            refine SXL.pass rfl rfl rfl ?_
            refine SXL.pass rfl rfl rfl ?_
            refine SXL.pass rfl rfl rfl ?_
            refine SXL.pass rfl rfl rfl ?_
            refine SXL.pass rfl rfl rfl ?_
            refine SXL.pass rfl rfl rfl ?_
            refine SXL.pass rfl rfl rfl ?_
            exact SXL.nil (segQ.mk (.skip rfl (.skip rfl (.skip rfl (.skip rfl (.skip rfl (.skip rfl (.skip rfl (.skip rfl (.skip rfl (.skip rfl (EnvSub.refl _))))))))))) rfl rfl rfl)
          exact SXL.nil (segQ.mk (.skip rfl (.skip rfl (.skip rfl (.skip rfl (EnvSub.refl _))))) rfl rfl ⟨rfl, rfl⟩)
        refine SXL.nil ⟨rfl, rfl, rfl, ?_⟩
        refine SXA.done (by kernel_rfl) ?_
        refine SXL.nil ?_
        refine thenQ.normal ?_
        refine SX.condP rfl (fun c61 => ?_) (fun c61 => ?_)
        · refine SX.exit ?_
          refine thenQ.exit ?_
          refine blockQ.exit ?_
          refine thenQ.normal ?_
          refine SX.region ?_
          refine SXL.add rfl rfl (by omega) ?_
          refine SXL.move rfl ?_
          refine SXL.nil ?_
          refine thenQ.normal ?_
          refine ⟨(k + 1, _), MeetsW.mkP _ ⟨rfl, rfl, trivial⟩ ⟨rfl, rfl, rfl, rfl, rfl, rfl, rfl, trivial⟩ rfl, ⟨by omega, ?_⟩, (show u.streets.length - (k + 1) < u.streets.length - k by omega)⟩
          rw [poorTo_succ hnx]
          first
            | (exact (if_pos ⟨⟨by omega, c71⟩, by omega⟩).symm)
            | (exact (if_neg (fun h => c71 h.1.2)).symm)
            | (exact (if_neg (fun h => by have h1 := h.1.1; have h2 := h.2; omega)).symm)
        · refine SX.skip ?_
          refine thenQ.normal ?_
          refine SX.seq ?_
          refine SX.region ?_
          refine SXL.move rfl ?_
          refine SXL.move rfl ?_
          refine SXL.indexSl 2 el_33 rfl rfl (by omega) rfl (ol.list hll) ?_; intro y1 hy1
          refine SXL.loadSl1 2 (v := .int .i64 (l.getD k 0)) sh_3 rfl hy1 rfl (ol.list hll) (intsAtX (i := k) (by simp) (by omega)) ?_
          refine SXL.add rfl rfl (by omega) ?_
          refine SXL.indexSl 2 el_33 rfl rfl (by omega) rfl (ol.list hll) ?_; intro y2 hy2; obtain rfl : y1 = y2 := Option.some.inj (hy1.symm.trans hy2)
          refine SXL.storeI 2 (i := k) sz_3 rfl rfl hy1 rfl (ol.list hll) (by simp) (by omega) ?_
          refine SXL.nil ?_
          refine thenQ.normal ?_
          refine SX.seq ?_
          refine SX.seq ?_
          refine SX.region ?_
          refine SXL.loadNo 0 sh_25 rfl rfl rfl ?_
          refine SXL.move rfl ?_
          refine SXL.move rfl ?_
          refine SXL.call1 (.bool (decide (CanP u (waterL u week best) (l.set k (l.getD k 0 + 1))))) fn_58 rfl (fun w hI => rcan_l u fo so fc sc fa sa (waterL u week best) (l.set k (l.getD k 0 + 1)) qw.addr ql.addr _ _ qw.cap ql.cap rfl hlk (waterL_len u _ _) (water_sm hv ht hw _) (by omega) hin.sm1 hl w (hs.inv hI) (slOnes hI ow (i := 1) rfl) (slOnes hI (ol.list hlk) (i := 2) rfl)) ?_
          refine SXL.nil ?_
          refine thenQ.normal ?_
          refine SX.condP rfl (fun c71 => ?_) (fun c71 => ?_)
          · refine SX.region ?_
            refine SXL.move rfl ?_
            refine SXL.assign rfl ?_
            refine SXL.nil ?_
            refine thenQ.normal ?_
            refine SX.region ?_
            refine SXL.move rfl ?_
            refine SXL.move rfl ?_
            refine SXL.indexSl 2 el_33 rfl rfl (by omega) rfl (ol.list hlk) ?_; intro z1 hz1
            refine SXL.loadSl1 2 (v := .int .i64 (l.getD k 0 + 1)) sh_3 rfl hz1 rfl (ol.list hlk) ((intsAtX (i := k) (by simp) (by rw [List.length_set]; omega)).trans (congrArg (fun z => some (Value.int .i64 z)) (getD_set_self _ (by omega)))) ?_
            refine SXL.sub rfl rfl (by omega) ?_
            refine SXL.indexSl 2 el_33 rfl rfl (by omega) rfl (ol.list hlk) ?_; intro z2 hz2; obtain rfl : z1 = z2 := Option.some.inj (hz1.symm.trans hz2)
            refine SXL.storeI 2 (i := k) sz_3 rfl rfl hz1 rfl (ol.list hlk) (by simp) (by rw [List.length_set]; omega) ?_; rw [set_back (l := l) (a := k) (x := l.getD k 0 + 1) (y := l.getD k 0 + 1 - 1) (by omega)]
            refine SXL.nil ?_
            refine blockQ.normal ?_
            refine thenQ.normal ?_
            refine SX.region ?_
            refine SXL.add rfl rfl (by omega) ?_
            refine SXL.move rfl ?_
            refine SXL.nil ?_
            refine thenQ.normal ?_
            refine ⟨(k + 1, _), MeetsW.mkP _ ⟨rfl, rfl, trivial⟩ ⟨rfl, rfl, rfl, rfl, rfl, rfl, rfl, trivial⟩ rfl, ⟨by omega, ?_⟩, (show u.streets.length - (k + 1) < u.streets.length - k by omega)⟩
            rw [poorTo_succ hnx]
            first
              | (exact (if_pos ⟨⟨by omega, c71⟩, by omega⟩).symm)
              | (exact (if_neg (fun h => c71 h.1.2)).symm)
              | (exact (if_neg (fun h => by have h1 := h.1.1; have h2 := h.2; omega)).symm)
          · refine SX.skip ?_
            refine thenQ.normal ?_
            refine SX.region ?_
            refine SXL.move rfl ?_
            refine SXL.move rfl ?_
            refine SXL.indexSl 2 el_33 rfl rfl (by omega) rfl (ol.list hlk) ?_; intro z1 hz1
            refine SXL.loadSl1 2 (v := .int .i64 (l.getD k 0 + 1)) sh_3 rfl hz1 rfl (ol.list hlk) ((intsAtX (i := k) (by simp) (by rw [List.length_set]; omega)).trans (congrArg (fun z => some (Value.int .i64 z)) (getD_set_self _ (by omega)))) ?_
            refine SXL.sub rfl rfl (by omega) ?_
            refine SXL.indexSl 2 el_33 rfl rfl (by omega) rfl (ol.list hlk) ?_; intro z2 hz2; obtain rfl : z1 = z2 := Option.some.inj (hz1.symm.trans hz2)
            refine SXL.storeI 2 (i := k) sz_3 rfl rfl hz1 rfl (ol.list hlk) (by simp) (by rw [List.length_set]; omega) ?_; rw [set_back (l := l) (a := k) (x := l.getD k 0 + 1) (y := l.getD k 0 + 1 - 1) (by omega)]
            refine SXL.nil ?_
            refine blockQ.normal ?_
            refine thenQ.normal ?_
            refine SX.region ?_
            refine SXL.add rfl rfl (by omega) ?_
            refine SXL.move rfl ?_
            refine SXL.nil ?_
            refine thenQ.normal ?_
            refine ⟨(k + 1, _), MeetsW.mkP _ ⟨rfl, rfl, trivial⟩ ⟨rfl, rfl, rfl, rfl, rfl, rfl, rfl, trivial⟩ rfl, ⟨by omega, ?_⟩, (show u.streets.length - (k + 1) < u.streets.length - k by omega)⟩
            rw [poorTo_succ hnx]
            first
              | (exact (if_pos ⟨⟨by omega, c71⟩, by omega⟩).symm)
              | (exact (if_neg (fun h => c71 h.1.2)).symm)
              | (exact (if_neg (fun h => by have h1 := h.1.1; have h2 := h.2; omega)).symm)
      · refine SX.exit ?_
        refine thenQ.exit ?_
        refine thenQ.exit ?_
        refine blockQ.exit ?_
        refine thenQ.normal ?_
        refine SX.seq ?_
        refine SX.seq ?_
        obtain rfl : k = u.streets.length := by omega
        refine SX.region ?_
        refine SXL.move rfl ?_
        refine SXL.lss rfl rfl ?_
        refine SXL.nil ?_
        refine thenQ.normal ?_
        refine SX.condP rfl (fun c81 => ?_) (fun c81 => ?_)
        · refine SX.seq ?_
          refine SX.region ?_
          refine SXL.move rfl ?_
          refine SXL.assign rfl ?_
          refine SXL.assign rfl ?_
          refine SXL.nil ?_
          refine thenQ.normal ?_
          refine SX.ret ?_
          refine thenQ.ret ?_
          refine blockQ.ret ?_
          refine thenQ.ret ?_
          refine blockQ.ret ?_
          refine retQ.sel [2] rfl rfl ?_
          refine retQ.two (ResAt.tmp rfl) (ResAt.tmp rfl) ?_
          have hno := oI_none hnx (by omega)
          obtain ⟨e1, e2⟩ := fair_some he (Decidable.not_not.1 c30) (hrch _ (.done hno))
          rw [e1, e2]
          exact ⟨ql, by rw [hin.len, ← hn0]; exact ol.list (by have := hin.len; omega), by rw [hin.len, ← hn0], rfl⟩
        · refine SX.skip ?_
          refine thenQ.normal ?_
          obtain ⟨a, rfl⟩ : ∃ a : Nat, nx = a := ⟨nx.toNat, by omega⟩
          have hpa := oI_some hnx
          have han := poorTo_lt hpa
          have hnaa := hin.in_ a han
          have hua := (((poorTo_spec _ l u.streets.length).2 a).1 hpa).2.1.1
          refine SX.region ?_
          refine SXL.move rfl ?_
          refine SXL.move rfl ?_
          refine SXL.indexSl 2 el_33 rfl rfl (by omega) rfl (ol.list hll) ?_; intro v1 hv1
          refine SXL.loadSl1 2 (v := .int .i64 (l.getD a 0)) sh_3 rfl hv1 rfl (ol.list hll) (intsAtX (i := a) (by simp) (by omega)) ?_
          refine SXL.add rfl rfl (by omega) ?_
          refine SXL.indexSl 2 el_33 rfl rfl (by omega) rfl (ol.list hll) ?_; intro v2 hv2; obtain rfl : v1 = v2 := Option.some.inj (hv1.symm.trans hv2)
          refine SXL.storeI 2 (i := a) sz_3 rfl rfl hv1 rfl (ol.list hll) (by simp) (by omega) ?_
          refine SXL.nil ?_
          refine blockQ.normal ?_
          refine thenQ.normal ?_
          refine ⟨_, MeetsW.mkP _ trivial ⟨rfl, rfl, rfl, rfl, rfl, trivial⟩ rfl, ⟨hin.up han hua, hrch.step hpa⟩, (by have h1 := roomTo_set (u := u) (l := l) (a := a) (by omega) hua u.streets.length han; omega)⟩
end Go.Proofs.YtolcicaclflagaaDoor

/- The walks of functions. -/
namespace Go.Proofs.YtolcicaclflagaaDoor
open Go.X Go.S
theorem great_any (s : Sp) (bo ro : Option Addr) (bc rc : Nat) (w : World) :
    CallsR Tryd.prog 37 [.agg ⟨[.int .i64 s.weeks, .int .i64 s.most, .int .i64 s.fall, .int .i64 s.a0, .int .i64 s.a1, .int .i64 s.w0, .int .i64 s.w1, (.slice bo s.book.length bc), (.slice ro s.reads.length rc)]⟩] w (fun v _ => v = .bool (decide ((30 : Int) < (s.book.length : Int) ∨ (30 : Int) < (s.reads.length : Int)))) := by
  refine CallsR.of_SX (n := 13) (rs := [.tmp 2]) Tryd.func37 rfl rfl rfl rfl ?_
  show SX _ _ _ ⟨[(0, .agg ⟨[.int .i64 s.weeks, .int .i64 s.most, .int .i64 s.fall, .int .i64 s.a0, .int .i64 s.a1, .int .i64 s.w0, .int .i64 s.w1, (.slice bo s.book.length bc), (.slice ro s.reads.length rc)]⟩)], [], []⟩
  refine SX.seq ?_
  refine SX.region ?_
  refine SXL.box rfl rfl ?_; intro b0
  refine SXL.assign rfl ?_
  refine SXL.nil ?_
  refine thenQ.normal ?_
  refine SX.seq ?_
  refine SX.region ?_
  refine SXL.fieldAddr fp_68_5 rfl ?_
  refine SXL.load1o 0 sh_65 rfl rfl rfl ?_
  refine SXL.len is_65 rfl ?_
  refine SXL.gtr rfl rfl ?_
  refine SXL.move rfl ?_
  apply SXL.orG 4
  case hl => exact rfl
  case hd => exact rfl
  case hg => exact rfl
  case ht =>
    intro g1
    refine SXL.pass rfl rfl rfl ?_
    refine SXL.pass rfl rfl rfl ?_
    refine SXL.pass rfl rfl rfl ?_
    refine SXL.pass rfl rfl rfl ?_
    exact SXL.nil (segQ.mk (.skip rfl (.skip rfl (.skip rfl (.skip rfl (.skip rfl (EnvSub.refl _)))))) rfl rfl rfl)
  case hf =>
    intro g1
    refine SXL.fieldAddr fp_68_6 rfl ?_
    refine SXL.load1o 0 sh_66 rfl rfl rfl ?_
    refine SXL.len is_66 rfl ?_
    refine SXL.gtr rfl rfl ?_
    exact SXL.nil (segQ.mk (.skip rfl (.skip rfl (.skip rfl (.skip rfl (.skip rfl (EnvSub.refl _)))))) rfl rfl ⟨rfl, rfl⟩)
  refine SXL.assign rfl ?_
  refine SXL.nil ?_
  refine thenQ.normal ?_
  refine SX.ret ?_
  refine retQ.one (ResAt.tmp rfl) ?_
  first | rfl | assumption
theorem sameInts_any (l m : List Int) (lo mo : Option Addr) (lc mc : Nat) (hmx : l.length ≤ 1000000) (w : World) (h1 : RowsAt w lo 1 (ones l)) (h2 : RowsAt w mo 1 (ones m)) :
    CallsR Tryd.prog 53 [.slice lo l.length lc, .slice mo m.length mc] w (fun v _ => v = .bool (decide (l = m))) := by
  refine CallsR.of_SX (n := 26) (rs := [.tmp 4]) Tryd.func53 rfl rfl rfl rfl ?_
  show SX _ _ _ ⟨[(0, .slice lo l.length lc), (1, .slice mo m.length mc)], [], []⟩
  refine SX.seq ?_
  refine SX.region ?_
  refine SXL.assign rfl ?_
  refine SXL.nil ?_
  refine thenQ.normal ?_
  refine SX.seq ?_
  refine SX.seq ?_
  refine SX.region ?_
  refine SXL.move rfl ?_
  refine SXL.len is_33 rfl ?_
  refine SXL.move rfl ?_
  refine SXL.len is_33 rfl ?_
  refine SXL.neqI rfl rfl ?_
  refine SXL.nil ?_
  refine thenQ.normal ?_
  refine SX.condP rfl (fun c10 => ?_) (fun c10 => ?_)
  · refine SX.seq ?_
    refine SX.region ?_
    refine SXL.assign rfl ?_
    refine SXL.nil ?_
    refine thenQ.normal ?_
    refine SX.ret ?_
    refine thenQ.ret ?_
    refine retQ.one (ResAt.tmp rfl) ?_
    exact congrArg Value.bool (decide_eq_false (by intro h; subst h; omega)).symm
  · refine SX.skip ?_
    refine thenQ.normal ?_
    refine SX.seq ?_
    refine SX.seq ?_
    refine SX.region ?_
    refine SXL.assign rfl ?_
    refine SXL.nil ?_
    refine thenQ.normal ?_
    refine SX.block ?_
    refine SX.loopG (α := Nat) [0, 1, 4] rfl (fun k => [(5, .int .i64 ((k : Int)))]) (fun k => []) (fun k => k ≤ l.length ∧ ∀ i, i < k → l.getD i 0 = m.getD i 0) (fun k => l.length - k) 0 ⟨Nat.zero_le _, fun _ h => absurd h (Nat.not_lt_zero _)⟩ ⟨rfl, trivial⟩ rfl ?_
    rintro k ⟨hk, hall⟩
    refine SX.seq ?_
    refine SX.seq ?_
    refine SX.region ?_
    refine SXL.move rfl ?_
    refine SXL.move rfl ?_
    refine SXL.len is_33 rfl ?_
    refine SXL.lss rfl rfl ?_
    refine SXL.nil ?_
    refine thenQ.normal ?_
    refine SX.condP rfl (fun c14 => ?_) (fun c14 => ?_)
    · refine SX.skip ?_
      refine thenQ.normal ?_
      refine SX.seq ?_
      refine SX.block ?_
      refine SX.seq ?_
      obtain ⟨b, o, ha, hm⟩ := oneI h1 (i := k) (by omega)
      obtain ⟨b2, o2, ha2, hm2⟩ := oneI h2 (i := k) (by omega)
      refine SX.draw 9 (by kernel_rfl) (by kernel_rfl) {} ?_
      refine SXA.take 0 9 rfl (by kernel_rfl) rfl ?_
      refine SXL.move rfl ?_
      refine SXL.move rfl ?_
      refine SXL.indexR el_33 rfl rfl ha (by omega) ?_
      refine SXL.load1 sh_3 rfl (hm _) ?_
      refine SXL.move rfl ?_
      refine SXL.move rfl ?_
      refine SXL.indexR el_33 rfl rfl ha2 (by omega) ?_
      refine SXL.load1 sh_3 rfl (hm2 _) ?_
      refine SXL.neqI rfl rfl ?_
      refine SXL.nil ⟨rfl, rfl, rfl, ?_⟩
      refine SXA.done (by kernel_rfl) ?_
      refine SXL.nil ?_
      refine thenQ.normal ?_
      refine SX.condP rfl (fun c25 => ?_) (fun c25 => ?_)
      · refine SX.seq ?_
        refine SX.region ?_
        refine SXL.assign rfl ?_
        refine SXL.nil ?_
        refine thenQ.normal ?_
        refine SX.ret ?_
        refine blockQ.ret ?_
        refine thenQ.ret ?_
        refine thenQ.ret ?_
        refine blockQ.ret ?_
        refine thenQ.ret ?_
        refine retQ.one (ResAt.tmp rfl) ?_
        exact congrArg Value.bool (decide_eq_false (by intro h; subst h; exact c25 rfl)).symm
      · refine SX.skip ?_
        refine blockQ.normal ?_
        refine thenQ.normal ?_
        refine SX.region ?_
        refine SXL.move rfl ?_
        refine SXL.add rfl rfl (by omega) ?_
        refine SXL.assign rfl ?_
        refine SXL.nil ?_
        refine thenQ.normal ?_
        refine ⟨k + 1, Meets.mk _ ⟨rfl, trivial⟩ ⟨rfl, rfl, rfl, trivial⟩ rfl, ?_, (by omega)⟩
        refine ⟨by omega, fun i hi => ?_⟩
        by_cases e : i = k
        · subst e; exact Decidable.not_not.1 c25
        · exact hall i (by omega)
    · refine SX.exit ?_
      refine thenQ.exit ?_
      refine thenQ.exit ?_
      refine blockQ.exit ?_
      refine thenQ.normal ?_
      refine SX.seq ?_
      refine SX.region ?_
      refine SXL.assign rfl ?_
      refine SXL.nil ?_
      refine thenQ.normal ?_
      refine SX.ret ?_
      refine retQ.one (ResAt.tmp rfl) ?_
      exact congrArg Value.bool (decide_eq_true (List.ext_getElem (by omega) (fun i h3 h4 => by have := hall i (by omega); simpa [h3, h4] using this))).symm
theorem same_any (x y : Sp) (xb xr yb yr : Option Addr) (xbc xrc ybc yrc : Nat) (hm1 : x.book.length ≤ 1000000) (hm2 : x.reads.length ≤ 1000000) (w : World) (hx : SpAt w x xb xr) (hy : SpAt w y yb yr) :
    CallsR Tryd.prog 54 [.agg ⟨[.int .i64 x.weeks, .int .i64 x.most, .int .i64 x.fall, .int .i64 x.a0, .int .i64 x.a1, .int .i64 x.w0, .int .i64 x.w1, (.slice xb x.book.length xbc), (.slice xr x.reads.length xrc)]⟩, .agg ⟨[.int .i64 y.weeks, .int .i64 y.most, .int .i64 y.fall, .int .i64 y.a0, .int .i64 y.a1, .int .i64 y.w0, .int .i64 y.w1, (.slice yb y.book.length ybc), (.slice yr y.reads.length yrc)]⟩] w (fun v _ => v = .bool (decide (x = y))) := by
  refine CallsR.of_SX (n := 94) (rs := [.tmp 4]) Tryd.func54 rfl rfl rfl rfl ?_
  show SX _ _ _ ⟨[(0, .agg ⟨[.int .i64 x.weeks, .int .i64 x.most, .int .i64 x.fall, .int .i64 x.a0, .int .i64 x.a1, .int .i64 x.w0, .int .i64 x.w1, (.slice xb x.book.length xbc), (.slice xr x.reads.length xrc)]⟩), (1, .agg ⟨[.int .i64 y.weeks, .int .i64 y.most, .int .i64 y.fall, .int .i64 y.a0, .int .i64 y.a1, .int .i64 y.w0, .int .i64 y.w1, (.slice yb y.book.length ybc), (.slice yr y.reads.length yrc)]⟩)], [], []⟩
  refine SX.seq ?_
  refine SX.region ?_
  refine SXL.box rfl rfl ?_; intro b0
  refine SXL.box rfl rfl ?_; intro b1
  refine SXL.assign rfl ?_
  refine SXL.nil ?_
  refine thenQ.normal ?_
  refine SX.seq ?_
  refine SX.seq ?_
  refine SX.region ?_
  refine SXL.fieldAddr fp_68_0 rfl ?_
  refine SXL.load1o 0 sh_3 rfl rfl rfl ?_
  refine SXL.fieldAddr fp_68_0 rfl ?_
  refine SXL.load1o 1 sh_3 rfl rfl rfl ?_
  refine SXL.neqI rfl rfl ?_
  refine SXL.move rfl ?_
  apply SXL.orG 5
  case hl => exact rfl
  case hd => exact rfl
  case hg => exact rfl
  case ht =>
    intro g1
    refine SXL.pass rfl rfl rfl ?_
    refine SXL.pass rfl rfl rfl ?_
    refine SXL.pass rfl rfl rfl ?_
    refine SXL.pass rfl rfl rfl ?_
    refine SXL.pass rfl rfl rfl ?_
    exact SXL.nil (segQ.mk (.skip rfl (.skip rfl (.skip rfl (.skip rfl (.skip rfl (.skip rfl (EnvSub.refl _))))))) rfl rfl rfl)
  case hf =>
    intro g1
    refine SXL.fieldAddr fp_68_1 rfl ?_
    refine SXL.load1o 0 sh_3 rfl rfl rfl ?_
    refine SXL.fieldAddr fp_68_1 rfl ?_
    refine SXL.load1o 1 sh_3 rfl rfl rfl ?_
    refine SXL.neqI rfl rfl ?_
    exact SXL.nil (segQ.mk (.skip rfl (.skip rfl (.skip rfl (.skip rfl (.skip rfl (.skip rfl (EnvSub.refl _))))))) rfl rfl ⟨rfl, rfl⟩)
  refine SXL.move rfl ?_
  apply SXL.orG 5
  case hl => exact rfl
  case hd => exact rfl
  case hg => exact rfl
  case ht =>
    intro g2
    refine SXL.pass rfl rfl rfl ?_
    refine SXL.pass rfl rfl rfl ?_
    refine SXL.pass rfl rfl rfl ?_
    refine SXL.pass rfl rfl rfl ?_
    refine SXL.pass rfl rfl rfl ?_
    exact SXL.nil (segQ.mk (.skip rfl (.skip rfl (.skip rfl (.skip rfl (.skip rfl (.skip rfl (EnvSub.refl _))))))) rfl rfl rfl)
  case hf =>
    intro g2
    refine SXL.fieldAddr fp_68_2 rfl ?_
    refine SXL.load1o 0 sh_3 rfl rfl rfl ?_
    refine SXL.fieldAddr fp_68_2 rfl ?_
    refine SXL.load1o 1 sh_3 rfl rfl rfl ?_
    refine SXL.neqI rfl rfl ?_
    exact SXL.nil (segQ.mk (.skip rfl (.skip rfl (.skip rfl (.skip rfl (.skip rfl (.skip rfl (EnvSub.refl _))))))) rfl rfl ⟨rfl, rfl⟩)
  refine SXL.move rfl ?_
  apply SXL.orG 5
  case hl => exact rfl
  case hd => exact rfl
  case hg => exact rfl
  case ht =>
    intro g3
    refine SXL.pass rfl rfl rfl ?_
    refine SXL.pass rfl rfl rfl ?_
    refine SXL.pass rfl rfl rfl ?_
    refine SXL.pass rfl rfl rfl ?_
    refine SXL.pass rfl rfl rfl ?_
    exact SXL.nil (segQ.mk (.skip rfl (.skip rfl (.skip rfl (.skip rfl (.skip rfl (.skip rfl (EnvSub.refl _))))))) rfl rfl rfl)
  case hf =>
    intro g3
    refine SXL.fieldAddr fp_68_3 rfl ?_
    refine SXL.loadNo 0 sh_55 rfl rfl rfl ?_
    refine SXL.fieldAddr fp_68_3 rfl ?_
    refine SXL.loadNo 1 sh_55 rfl rfl rfl ?_
    refine SXL.neqV (p := [x.a0, x.a1] ≠ [y.a0, y.a1]) (u := .agg ⟨ints ([x.a0, x.a1])⟩) (v := .agg ⟨ints ([y.a0, y.a1])⟩) rfl rfl (run_neq_ints eq_55 eg_55 sh_55 rfl rfl) ?_
    exact SXL.nil (segQ.mk (.skip rfl (.skip rfl (.skip rfl (.skip rfl (.skip rfl (.skip rfl (EnvSub.refl _))))))) rfl rfl ⟨rfl, rfl⟩)
  refine SXL.move rfl ?_
  apply SXL.orG 5
  case hl => exact rfl
  case hd => exact rfl
  case hg => exact rfl
  case ht =>
    intro g4
    refine SXL.pass rfl rfl rfl ?_
    refine SXL.pass rfl rfl rfl ?_
    refine SXL.pass rfl rfl rfl ?_
    refine SXL.pass rfl rfl rfl ?_
    refine SXL.pass rfl rfl rfl ?_
    exact SXL.nil (segQ.mk (.skip rfl (.skip rfl (.skip rfl (.skip rfl (.skip rfl (.skip rfl (EnvSub.refl _))))))) rfl rfl rfl)
  case hf =>
    intro g4
    refine SXL.fieldAddr fp_68_4 rfl ?_
    refine SXL.loadNo 0 sh_55 rfl rfl rfl ?_
    refine SXL.fieldAddr fp_68_4 rfl ?_
    refine SXL.loadNo 1 sh_55 rfl rfl rfl ?_
    refine SXL.neqV (p := [x.w0, x.w1] ≠ [y.w0, y.w1]) (u := .agg ⟨ints ([x.w0, x.w1])⟩) (v := .agg ⟨ints ([y.w0, y.w1])⟩) rfl rfl (run_neq_ints eq_55 eg_55 sh_55 rfl rfl) ?_
    exact SXL.nil (segQ.mk (.skip rfl (.skip rfl (.skip rfl (.skip rfl (.skip rfl (.skip rfl (EnvSub.refl _))))))) rfl rfl ⟨rfl, rfl⟩)
  refine SXL.move rfl ?_
  apply SXL.orG 7
  case hl => exact rfl
  case hd => exact rfl
  case hg => exact rfl
  case ht =>
    intro g5
    refine SXL.pass rfl rfl rfl ?_
    refine SXL.pass rfl rfl rfl ?_
    refine SXL.pass rfl rfl rfl ?_
    refine SXL.pass rfl rfl rfl ?_
    refine SXL.pass rfl rfl rfl ?_
    refine SXL.pass rfl rfl rfl ?_
    refine SXL.pass rfl rfl rfl ?_
    exact SXL.nil (segQ.mk (.skip rfl (.skip rfl (.skip rfl (.skip rfl (.skip rfl (.skip rfl (.skip rfl (.skip rfl (EnvSub.refl _))))))))) rfl rfl rfl)
  case hf =>
    intro g5
    refine SXL.fieldAddr fp_68_5 rfl ?_
    refine SXL.load1o 0 sh_65 rfl rfl rfl ?_
    refine SXL.len is_65 rfl ?_
    refine SXL.fieldAddr fp_68_5 rfl ?_
    refine SXL.load1o 1 sh_65 rfl rfl rfl ?_
    refine SXL.len is_65 rfl ?_
    refine SXL.neqI rfl rfl ?_
    exact SXL.nil (segQ.mk (.skip rfl (.skip rfl (.skip rfl (.skip rfl (.skip rfl (.skip rfl (.skip rfl (.skip rfl (EnvSub.refl _))))))))) rfl rfl ⟨rfl, rfl⟩)
  refine SXL.move rfl ?_
  apply SXL.orG 7
  case hl => exact rfl
  case hd => exact rfl
  case hg => exact rfl
  case ht =>
    intro c57
    refine SXL.pass rfl rfl rfl ?_
    refine SXL.pass rfl rfl rfl ?_
    refine SXL.pass rfl rfl rfl ?_
    refine SXL.pass rfl rfl rfl ?_
    refine SXL.pass rfl rfl rfl ?_
    refine SXL.pass rfl rfl rfl ?_
    refine SXL.pass rfl rfl rfl ?_
    exact SXL.nil (segQ.mk (.skip rfl (.skip rfl (.skip rfl (.skip rfl (.skip rfl (.skip rfl (.skip rfl (.skip rfl (EnvSub.refl _))))))))) rfl rfl rfl)
  case hf =>
    intro c57
    refine SXL.fieldAddr fp_68_6 rfl ?_
    refine SXL.load1o 0 sh_66 rfl rfl rfl ?_
    refine SXL.len is_66 rfl ?_
    refine SXL.fieldAddr fp_68_6 rfl ?_
    refine SXL.load1o 1 sh_66 rfl rfl rfl ?_
    refine SXL.len is_66 rfl ?_
    refine SXL.neqI rfl rfl ?_
    exact SXL.nil (segQ.mk (.skip rfl (.skip rfl (.skip rfl (.skip rfl (.skip rfl (.skip rfl (.skip rfl (.skip rfl (EnvSub.refl _))))))))) rfl rfl ⟨rfl, rfl⟩)
  refine SXL.nil ?_
  refine thenQ.normal ?_
  refine SX.condP rfl (fun c57 => ?_) (fun c57 => ?_)
  · refine SX.seq ?_
    refine SX.region ?_
    refine SXL.assign rfl ?_
    refine SXL.nil ?_
    refine thenQ.normal ?_
    refine SX.ret ?_
    refine thenQ.ret ?_
    refine retQ.one (ResAt.tmp rfl) ?_
    exact congrArg Value.bool (decide_eq_false (by intro h; subst h; simp at c57)).symm
  · refine SX.skip ?_
    refine thenQ.normal ?_
    refine SX.seq ?_
    refine SX.seq ?_
    refine SX.region ?_
    refine SXL.assign rfl ?_
    refine SXL.nil ?_
    refine thenQ.normal ?_
    refine SX.block ?_
    refine SX.loopG (α := Nat) [2, 3, 4] rfl (fun k => [(5, .int .i64 ((k : Int)))]) (fun k => []) (fun k => k ≤ x.book.length ∧ ∀ i, i < k → x.book.getD i default = y.book.getD i default) (fun k => x.book.length - k) 0 ⟨Nat.zero_le _, fun _ h => absurd h (Nat.not_lt_zero _)⟩ ⟨rfl, trivial⟩ rfl ?_
    rintro k ⟨hk, hall⟩
    refine SX.seq ?_
    refine SX.seq ?_
    refine SX.region ?_
    refine SXL.move rfl ?_
    refine SXL.fieldAddr fp_68_5 rfl ?_
    refine SXL.load1o 0 sh_65 rfl rfl rfl ?_
    refine SXL.len is_65 rfl ?_
    refine SXL.lss rfl rfl ?_
    refine SXL.nil ?_
    refine thenQ.normal ?_
    refine SX.condP rfl (fun c62 => ?_) (fun c62 => ?_)
    · refine SX.skip ?_
      refine thenQ.normal ?_
      refine SX.seq ?_
      refine SX.block ?_
      refine SX.seq ?_
      obtain ⟨b, o, ha, hm⟩ := hx.lineD (i := k) (by omega)
      obtain ⟨b2, o2, ha2, hn⟩ := hy.lineD (i := k) (by omega)
      refine SX.draw 11 (by kernel_rfl) (by kernel_rfl) {} ?_
      refine SXA.take 0 11 rfl (by kernel_rfl) rfl ?_
      refine SXL.fieldAddr fp_68_5 rfl ?_
      refine SXL.load1o 0 sh_65 rfl rfl rfl ?_
      refine SXL.move rfl ?_
      refine SXL.indexR el_65 rfl rfl ha (by omega) ?_
      refine SXL.loadN sh_129 rfl (hm _) rfl ?_
      refine SXL.fieldAddr fp_68_5 rfl ?_
      refine SXL.load1o 1 sh_65 rfl rfl rfl ?_
      refine SXL.move rfl ?_
      refine SXL.indexR el_65 rfl rfl ha2 (by omega) ?_
      refine SXL.loadN sh_129 rfl (hn _) rfl ?_
      refine SXL.neqV (p := (x.book.getD k default).ints ≠ (y.book.getD k default).ints) (u := .agg ⟨ints ((x.book.getD k default).ints)⟩) (v := .agg ⟨ints ((y.book.getD k default).ints)⟩) rfl rfl (run_neq_ints eq_129 eg_129 sh_129 rfl rfl) ?_
      refine SXL.nil ⟨rfl, rfl, rfl, ?_⟩
      refine SXA.done (by kernel_rfl) ?_
      refine SXL.nil ?_
      refine thenQ.normal ?_
      refine SX.condP rfl (fun c75 => ?_) (fun c75 => ?_)
      · refine SX.seq ?_
        refine SX.region ?_
        refine SXL.assign rfl ?_
        refine SXL.nil ?_
        refine thenQ.normal ?_
        refine SX.ret ?_
        refine blockQ.ret ?_
        refine thenQ.ret ?_
        refine thenQ.ret ?_
        refine blockQ.ret ?_
        refine thenQ.ret ?_
        refine retQ.one (ResAt.tmp rfl) ?_
        exact congrArg Value.bool (decide_eq_false (by intro h; subst h; exact c75 rfl)).symm
      · refine SX.skip ?_
        refine blockQ.normal ?_
        refine thenQ.normal ?_
        refine SX.region ?_
        refine SXL.move rfl ?_
        refine SXL.add rfl rfl (by omega) ?_
        refine SXL.assign rfl ?_
        refine SXL.nil ?_
        refine thenQ.normal ?_
        refine ⟨k + 1, Meets.mk _ ⟨rfl, trivial⟩ ⟨rfl, rfl, rfl, trivial⟩ rfl, ?_, (by omega)⟩
        refine ⟨by omega, fun i hi => ?_⟩
        by_cases e : i = k
        · subst e; exact Ln.ints_inj.1 (Decidable.not_not.1 c75)
        · exact hall i (by omega)
    · refine SX.exit ?_
      refine thenQ.exit ?_
      refine thenQ.exit ?_
      refine blockQ.exit ?_
      refine thenQ.normal ?_
      refine SX.seq ?_
      refine SX.seq ?_
      refine SX.region ?_
      refine SXL.assign rfl ?_
      refine SXL.nil ?_
      refine thenQ.normal ?_
      refine SX.block ?_
      refine SX.loopG (α := Nat) [2, 3, 4] rfl (fun k => [(6, .int .i64 ((k : Int)))]) (fun k => []) (fun k => k ≤ x.reads.length ∧ ∀ i, i < k → x.reads.getD i default = y.reads.getD i default) (fun k => x.reads.length - k) 0 ⟨Nat.zero_le _, fun _ h => absurd h (Nat.not_lt_zero _)⟩ ⟨rfl, trivial⟩ rfl ?_
      rintro k ⟨hk2, hall2⟩
      refine SX.seq ?_
      refine SX.seq ?_
      refine SX.region ?_
      refine SXL.move rfl ?_
      refine SXL.fieldAddr fp_68_6 rfl ?_
      refine SXL.load1o 0 sh_66 rfl rfl rfl ?_
      refine SXL.len is_66 rfl ?_
      refine SXL.lss rfl rfl ?_
      refine SXL.nil ?_
      refine thenQ.normal ?_
      refine SX.condP rfl (fun c80 => ?_) (fun c80 => ?_)
      · refine SX.skip ?_
        refine thenQ.normal ?_
        refine SX.seq ?_
        refine SX.block ?_
        refine SX.seq ?_
        obtain ⟨b, o, ha, hm⟩ := hx.readD (i := k) (by omega)
        obtain ⟨b2, o2, ha2, hn⟩ := hy.readD (i := k) (by omega)
        refine SX.draw 11 (by kernel_rfl) (by kernel_rfl) {} ?_
        refine SXA.take 0 11 rfl (by kernel_rfl) rfl ?_
        refine SXL.fieldAddr fp_68_6 rfl ?_
        refine SXL.load1o 0 sh_66 rfl rfl rfl ?_
        refine SXL.move rfl ?_
        refine SXL.indexR el_66 rfl rfl ha (by omega) ?_
        refine SXL.loadN sh_131 rfl (hm _) rfl ?_
        refine SXL.fieldAddr fp_68_6 rfl ?_
        refine SXL.load1o 1 sh_66 rfl rfl rfl ?_
        refine SXL.move rfl ?_
        refine SXL.indexR el_66 rfl rfl ha2 (by omega) ?_
        refine SXL.loadN sh_131 rfl (hn _) rfl ?_
        refine SXL.neqV (p := (x.reads.getD k default).ints ≠ (y.reads.getD k default).ints) (u := .agg ⟨ints ((x.reads.getD k default).ints)⟩) (v := .agg ⟨ints ((y.reads.getD k default).ints)⟩) rfl rfl (run_neq_ints eq_131 eg_131 sh_131 rfl rfl) ?_
        refine SXL.nil ⟨rfl, rfl, rfl, ?_⟩
        refine SXA.done (by kernel_rfl) ?_
        refine SXL.nil ?_
        refine thenQ.normal ?_
        refine SX.condP rfl (fun c93 => ?_) (fun c93 => ?_)
        · refine SX.seq ?_
          refine SX.region ?_
          refine SXL.assign rfl ?_
          refine SXL.nil ?_
          refine thenQ.normal ?_
          refine SX.ret ?_
          refine blockQ.ret ?_
          refine thenQ.ret ?_
          refine thenQ.ret ?_
          refine blockQ.ret ?_
          refine thenQ.ret ?_
          refine retQ.one (ResAt.tmp rfl) ?_
          exact congrArg Value.bool (decide_eq_false (by intro h; subst h; exact c93 rfl)).symm
        · refine SX.skip ?_
          refine blockQ.normal ?_
          refine thenQ.normal ?_
          refine SX.region ?_
          refine SXL.move rfl ?_
          refine SXL.add rfl rfl (by omega) ?_
          refine SXL.assign rfl ?_
          refine SXL.nil ?_
          refine thenQ.normal ?_
          refine ⟨k + 1, Meets.mk _ ⟨rfl, trivial⟩ ⟨rfl, rfl, rfl, trivial⟩ rfl, ?_, (by omega)⟩
          refine ⟨by omega, fun i hi => ?_⟩
          by_cases e : i = k
          · subst e; exact Rd.ints_inj.1 (Decidable.not_not.1 c93)
          · exact hall2 i (by omega)
      · refine SX.exit ?_
        refine thenQ.exit ?_
        refine thenQ.exit ?_
        refine blockQ.exit ?_
        refine thenQ.normal ?_
        refine SX.seq ?_
        refine SX.region ?_
        refine SXL.assign rfl ?_
        refine SXL.nil ?_
        refine thenQ.normal ?_
        refine SX.ret ?_
        refine retQ.one (ResAt.tmp rfl) ?_
        exact congrArg Value.bool (decide_eq_true (sp_ext (by simp at c57; omega) (fun i hi => hall i (by omega)) (fun i hi => hall2 i (by omega)))).symm
theorem twin_any (s : Sp) (bo ro : Option Addr) (bc rc : Nat) (hm1 : s.book.length ≤ 1000000) (hm2 : s.reads.length ≤ 1000000) (w : World) (hs : SpAt w s bo ro) :
    CallsR Tryd.prog 38 [.agg ⟨[.int .i64 s.weeks, .int .i64 s.most, .int .i64 s.fall, .int .i64 s.a0, .int .i64 s.a1, .int .i64 s.w0, .int .i64 s.w1, (.slice bo s.book.length bc), (.slice ro s.reads.length rc)]⟩] w (SpR s) := by
  refine CallsR.of_SX (n := 14) (rs := [.cell 2 68]) Tryd.func38 rfl rfl rfl rfl ?_
  show SX _ _ _ ⟨[(0, .agg ⟨[.int .i64 s.weeks, .int .i64 s.most, .int .i64 s.fall, .int .i64 s.a0, .int .i64 s.a1, .int .i64 s.w0, .int .i64 s.w1, (.slice bo s.book.length bc), (.slice ro s.reads.length rc)]⟩)], [], []⟩
  refine SX.seq ?_
  refine SX.region ?_
  refine SXL.box rfl rfl ?_; intro b0
  refine SXL.alloc zp_68 ?_; intro b1
  refine SXL.nil ?_
  refine thenQ.normal ?_
  refine SX.seq ?_
  refine SX.draw 9 (by kernel_rfl) (by kernel_rfl) {} ?_
  refine SXA.take 1 2 rfl (by kernel_rfl) rfl ?_
  refine SXL.fieldAddr fp_68_5 rfl ?_
  refine SXL.load1o 0 sh_65 rfl rfl rfl ?_
  refine SXL.nil ⟨rfl, rfl, rfl, ?_⟩
  refine SXA.take 5 2 rfl (by kernel_rfl) rfl ?_
  refine SXL.fieldAddr fp_68_6 rfl ?_
  refine SXL.load1o 0 sh_66 rfl rfl rfl ?_
  refine SXL.nil ⟨rfl, rfl, rfl, ?_⟩
  refine SXA.all [0, 4] (by kernel_rfl) rfl ⟨⟨?_, rfl⟩, ⟨?_, rfl⟩, trivial⟩
  · refine (show SXL _ _ [_] _ _ from ?_)
    refine SXL.buildSlice0 et_65 ?_; intro b2
    refine SXL.nil (stepQ.mk _ rfl rfl ?_)
    refine SXA.all [3, 4] (by kernel_rfl) rfl ⟨⟨?_, rfl⟩, ⟨?_, rfl⟩, trivial⟩
    · refine (show SXL _ _ [_] _ _ from ?_)
      refine SXL.appendE (some b2) ap_65 rfl rfl (hs.bookSrc _) (bookC_len _) (bookC_one _) ⟨by simp only [maxLen]; omega, by omega⟩ ?_; intro r_6 o_6
      refine SXL.nil (stepQ.mk _ rfl rfl ?_)
      refine SXA.take 8 1 rfl (by kernel_rfl) rfl ?_
      refine SXL.fieldAddr fp_68_5 rfl ?_
      refine SXL.nil ⟨rfl, rfl, rfl, ?_⟩
      refine SXA.all [4] (by kernel_rfl) rfl ⟨⟨?_, rfl⟩, trivial⟩
      refine (show SXL _ _ [_] _ _ from ?_)
      refine SXL.buildSlice0 et_66 ?_; intro b4
      refine SXL.nil (stepQ.mk _ rfl rfl ?_)
      refine SXA.all [7] (by kernel_rfl) rfl ⟨⟨?_, rfl⟩, trivial⟩
      refine (show SXL _ _ [_] _ _ from ?_)
      refine SXL.appendE (some b4) ap_66 rfl rfl (hs.readsSrc _) (readsC_len _) (readsC_one _) ⟨by simp only [maxLen]; omega, by omega⟩ ?_; intro r_10 o_10
      refine SXL.nil (stepQ.mk _ rfl rfl ?_)
      refine SXA.done (by kernel_rfl) ?_
      refine SXL.store 0 sz_65 rfl rfl rfl rfl rfl rfl ?_
      refine SXL.fieldAddr fp_68_6 rfl ?_
      refine SXL.store 0 sz_66 rfl rfl rfl rfl rfl rfl ?_
      refine SXL.nil ?_
      refine thenQ.normal ?_
      refine SX.seq ?_
      refine SX.region ?_
      refine SXL.loadNo 0 sh_68 rfl rfl rfl ?_
      refine SXL.store 1 sz_68 rfl rfl rfl rfl rfl rfl ?_
      refine SXL.nil ?_
      refine thenQ.normal ?_
      refine SX.ret ?_
      refine retQ.sel [3, 5] rfl rfl ?_
      refine retQ.one (ResAt.cellNo 1 sh_68 rfl rfl rfl) ?_
      exact ⟨r_6, r_10, o_6, o_10, rfl, rfl⟩
    · refine (show SXL _ _ [_] _ _ from ?_)
      refine SXL.buildSlice0 et_66 ?_; intro b3
      refine SXL.nil (stepQ.mk _ rfl rfl ?_)
      refine SXA.all [3] (by kernel_rfl) rfl ⟨⟨?_, rfl⟩, trivial⟩
      refine (show SXL _ _ [_] _ _ from ?_)
      refine SXL.appendE (some b2) ap_65 rfl rfl (hs.bookSrc _) (bookC_len _) (bookC_one _) ⟨by simp only [maxLen]; omega, by omega⟩ ?_; intro r_6 o_6
      refine SXL.nil (stepQ.mk _ rfl rfl ?_)
      refine SXA.take 8 1 rfl (by kernel_rfl) rfl ?_
      refine SXL.fieldAddr fp_68_5 rfl ?_
      refine SXL.nil ⟨rfl, rfl, rfl, ?_⟩
      refine SXA.all [7] (by kernel_rfl) rfl ⟨⟨?_, rfl⟩, trivial⟩
      refine (show SXL _ _ [_] _ _ from ?_)
      refine SXL.appendE (some b3) ap_66 rfl rfl (hs.readsSrc _) (readsC_len _) (readsC_one _) ⟨by simp only [maxLen]; omega, by omega⟩ ?_; intro r_10 o_10
      refine SXL.nil (stepQ.mk _ rfl rfl ?_)
      refine SXA.done (by kernel_rfl) ?_
      refine SXL.store 0 sz_65 rfl rfl rfl rfl rfl rfl ?_
      refine SXL.fieldAddr fp_68_6 rfl ?_
      refine SXL.store 0 sz_66 rfl rfl rfl rfl rfl rfl ?_
      refine SXL.nil ?_
      refine thenQ.normal ?_
      refine SX.seq ?_
      refine SX.region ?_
      refine SXL.loadNo 0 sh_68 rfl rfl rfl ?_
      refine SXL.store 1 sz_68 rfl rfl rfl rfl rfl rfl ?_
      refine SXL.nil ?_
      refine thenQ.normal ?_
      refine SX.ret ?_
      refine retQ.sel [4, 5] rfl rfl ?_
      refine retQ.one (ResAt.cellNo 1 sh_68 rfl rfl rfl) ?_
      exact ⟨r_6, r_10, o_6, o_10, rfl, rfl⟩
  · refine (show SXL _ _ [_] _ _ from ?_)
    refine SXL.buildSlice0 et_66 ?_; intro b2
    refine SXL.nil (stepQ.mk _ rfl rfl ?_)
    refine SXA.all [0] (by kernel_rfl) rfl ⟨⟨?_, rfl⟩, trivial⟩
    refine (show SXL _ _ [_] _ _ from ?_)
    refine SXL.buildSlice0 et_65 ?_; intro b3
    refine SXL.nil (stepQ.mk _ rfl rfl ?_)
    refine SXA.all [3] (by kernel_rfl) rfl ⟨⟨?_, rfl⟩, trivial⟩
    refine (show SXL _ _ [_] _ _ from ?_)
    refine SXL.appendE (some b3) ap_65 rfl rfl (hs.bookSrc _) (bookC_len _) (bookC_one _) ⟨by simp only [maxLen]; omega, by omega⟩ ?_; intro r_6 o_6
    refine SXL.nil (stepQ.mk _ rfl rfl ?_)
    refine SXA.take 8 1 rfl (by kernel_rfl) rfl ?_
    refine SXL.fieldAddr fp_68_5 rfl ?_
    refine SXL.nil ⟨rfl, rfl, rfl, ?_⟩
    refine SXA.all [7] (by kernel_rfl) rfl ⟨⟨?_, rfl⟩, trivial⟩
    refine (show SXL _ _ [_] _ _ from ?_)
    refine SXL.appendE (some b2) ap_66 rfl rfl (hs.readsSrc _) (readsC_len _) (readsC_one _) ⟨by simp only [maxLen]; omega, by omega⟩ ?_; intro r_10 o_10
    refine SXL.nil (stepQ.mk _ rfl rfl ?_)
    refine SXA.done (by kernel_rfl) ?_
    refine SXL.store 0 sz_65 rfl rfl rfl rfl rfl rfl ?_
    refine SXL.fieldAddr fp_68_6 rfl ?_
    refine SXL.store 0 sz_66 rfl rfl rfl rfl rfl rfl ?_
    refine SXL.nil ?_
    refine thenQ.normal ?_
    refine SX.seq ?_
    refine SX.region ?_
    refine SXL.loadNo 0 sh_68 rfl rfl rfl ?_
    refine SXL.store 1 sz_68 rfl rfl rfl rfl rfl rfl ?_
    refine SXL.nil ?_
    refine thenQ.normal ?_
    refine SX.ret ?_
    refine retQ.sel [4, 5] rfl rfl ?_
    refine retQ.one (ResAt.cellNo 1 sh_68 rfl rfl rfl) ?_
    exact ⟨r_6, r_10, o_6, o_10, rfl, rfl⟩
end Go.Proofs.YtolcicaclflagaaDoor

/- The walks of the reference of layer 9: supplies that are the same, great, in new memory. -/
namespace Go.Proofs.YtolcicaclflagaaDoor
open Go.X Go.S Go.T Go.RowKit
theorem sameInts9_any (l m : List Int) (lo mo : Option Addr) (lc mc : Nat) (hmx : l.length ≤ 1000000) (w : World) (h1 : RowsAt w lo 1 (ones l)) (h2 : RowsAt w mo 1 (ones m)) :
    CallsR Tryd.prog 20 [.slice lo l.length lc, .slice mo m.length mc] w (fun v _ => v = .bool (decide (l = m))) := by
  refine CallsR.of_SX (n := 8) (rs := [.tmp 4]) Tryd.func20 rfl rfl rfl rfl ?_
  show SX _ _ _ ⟨[(0, .slice lo l.length lc), (1, .slice mo m.length mc)], [], []⟩
  refine SX.seq ?_
  refine SX.region ?_
  refine SXL.assign rfl ?_
  refine SXL.nil ?_
  refine thenQ.normal ?_
  refine SX.seq ?_
  refine SX.region ?_
  refine SXL.move rfl ?_
  refine SXL.move rfl ?_
  refine SXL.call1 (.bool (decide (l = m))) fn_53 rfl (fun w hI => sameInts_any l m lo mo lc mc hmx w (h1.inv hI) (h2.inv hI)) ?_
  refine SXL.assign rfl ?_
  refine SXL.nil ?_
  refine thenQ.normal ?_
  refine SX.ret ?_
  refine retQ.one (ResAt.tmp rfl) ?_
  first | rfl | assumption
set_option maxHeartbeats 2000000 in
theorem same9_any (u v : Su) (fo so go to : Option Addr) (fc sc gc tc : Nat) (fa ga : Nat → FA) (sa ta : Nat → DA) (hl : LitP u) (w : World) (hs : SuAt w u fo so fa sa) (ht : SuAt w v go to ga ta) :
    CallsR Tryd.prog 21 [.agg ⟨[.slice fo u.founts.length fc, .slice so u.streets.length sc]⟩, .agg ⟨[.slice go v.founts.length gc, .slice to v.streets.length tc]⟩] w (fun v_ _ => v_ = .bool (decide (u = v))) := by
  have hL0 := hl.1
  have hL1 := hl.2.1
  have hL2 := hl.2.2
  refine CallsR.of_SX (n := 105) (rs := [.tmp 4]) Tryd.func21 rfl rfl rfl rfl ?_
  show SX _ _ _ ⟨[(0, .agg ⟨[.slice fo u.founts.length fc, .slice so u.streets.length sc]⟩), (1, .agg ⟨[.slice go v.founts.length gc, .slice to v.streets.length tc]⟩)], [], []⟩
  refine SX.seq ?_
  refine SX.region ?_
  refine SXL.box rfl rfl ?_; intro b0
  refine SXL.box rfl rfl ?_; intro b1
  refine SXL.assign rfl ?_
  refine SXL.nil ?_
  refine thenQ.normal ?_
  refine SX.seq ?_
  refine SX.seq ?_
  refine SX.region ?_
  refine SXL.fieldAddr fp_25_0 rfl ?_
  refine SXL.load1o 0 sh_22 rfl rfl rfl ?_
  refine SXL.len is_22 rfl ?_
  refine SXL.fieldAddr fp_25_0 rfl ?_
  refine SXL.load1o 1 sh_22 rfl rfl rfl ?_
  refine SXL.len is_22 rfl ?_
  refine SXL.neqI rfl rfl ?_
  refine SXL.move rfl ?_
  apply SXL.orG 7
  case hl => exact rfl
  case hd => exact rfl
  case hg => exact rfl
  case ht =>
    intro c24
    refine SXL.pass rfl rfl rfl ?_
    refine SXL.pass rfl rfl rfl ?_
    refine SXL.pass rfl rfl rfl ?_
    refine SXL.pass rfl rfl rfl ?_
    refine SXL.pass rfl rfl rfl ?_
    refine SXL.pass rfl rfl rfl ?_
    refine SXL.pass rfl rfl rfl ?_
    exact SXL.nil (segQ.mk (.skip rfl (.skip rfl (.skip rfl (.skip rfl (.skip rfl (.skip rfl (.skip rfl (.skip rfl (EnvSub.refl _))))))))) rfl rfl rfl)
  case hf =>
    intro c24
    refine SXL.fieldAddr fp_25_1 rfl ?_
    refine SXL.load1o 0 sh_23 rfl rfl rfl ?_
    refine SXL.len is_23 rfl ?_
    refine SXL.fieldAddr fp_25_1 rfl ?_
    refine SXL.load1o 1 sh_23 rfl rfl rfl ?_
    refine SXL.len is_23 rfl ?_
    refine SXL.neqI rfl rfl ?_
    exact SXL.nil (segQ.mk (.skip rfl (.skip rfl (.skip rfl (.skip rfl (.skip rfl (.skip rfl (.skip rfl (.skip rfl (EnvSub.refl _))))))))) rfl rfl ⟨rfl, rfl⟩)
  refine SXL.nil ?_
  refine thenQ.normal ?_
  refine SX.condP rfl (fun c24 => ?_) (fun c24 => ?_)
  · refine SX.seq ?_
    refine SX.region ?_
    refine SXL.assign rfl ?_
    refine SXL.nil ?_
    refine thenQ.normal ?_
    refine SX.ret ?_
    refine thenQ.ret ?_
    refine retQ.one (ResAt.tmp rfl) ?_
    exact congrArg Value.bool (decide_eq_false (by intro h; subst h; omega)).symm
  · refine SX.skip ?_
    refine thenQ.normal ?_
    refine SX.seq ?_
    refine SX.seq ?_
    refine SX.region ?_
    refine SXL.assign rfl ?_
    refine SXL.nil ?_
    refine thenQ.normal ?_
    refine SX.block ?_
    refine SX.loopG (α := Nat) [2, 3, 4] rfl (fun k => [(5, .int .i64 ((k : Int)))]) (fun k => []) (fun k => k ≤ u.founts.length ∧ ∀ i, i < k → (u.founts.getD i default).id = (v.founts.getD i default).id ∧ (u.founts.getD i default).sp = (v.founts.getD i default).sp) (fun k => u.founts.length - k) 0 ⟨Nat.zero_le _, fun _ h => absurd h (Nat.not_lt_zero _)⟩ ⟨rfl, trivial⟩ rfl ?_
    rintro k ⟨hk, hall⟩
    refine SX.seq ?_
    refine SX.seq ?_
    refine SX.region ?_
    refine SXL.move rfl ?_
    refine SXL.fieldAddr fp_25_0 rfl ?_
    refine SXL.load1o 0 sh_22 rfl rfl rfl ?_
    refine SXL.len is_22 rfl ?_
    refine SXL.lss rfl rfl ?_
    refine SXL.nil ?_
    refine thenQ.normal ?_
    refine SX.condP rfl (fun c29 => ?_) (fun c29 => ?_)
    · refine SX.skip ?_
      refine thenQ.normal ?_
      refine SX.seq ?_
      refine SX.block ?_
      refine SX.seq ?_
      obtain ⟨b, o, ha, hm⟩ := hs.fount (i := k) (by omega)
      obtain ⟨b2, o2, ha2, hn⟩ := ht.fount (i := k) (by omega)
      have hLk := hL1 k (by omega)
      refine SX.draw 29 (by kernel_rfl) (by kernel_rfl) {} ?_
      refine SXA.take 0 29 rfl (by kernel_rfl) rfl ?_
      refine SXL.fieldAddr fp_25_0 rfl ?_
      refine SXL.load1o 0 sh_22 rfl rfl rfl ?_
      refine SXL.move rfl ?_
      refine SXL.indexR el_22 rfl rfl ha (by omega) ?_
      refine SXL.fieldAddr fp_70_0 rfl ?_
      refine SXL.load1 sh_3 rfl ((hm _).sub (j := 0) (k := 1) rfl) ?_
      refine SXL.fieldAddr fp_25_0 rfl ?_
      refine SXL.load1o 1 sh_22 rfl rfl rfl ?_
      refine SXL.move rfl ?_
      refine SXL.indexR el_22 rfl rfl ha2 (by omega) ?_
      refine SXL.fieldAddr fp_70_0 rfl ?_
      refine SXL.load1 sh_3 rfl ((hn _).sub (j := 0) (k := 1) rfl) ?_
      refine SXL.neqI rfl rfl ?_
      refine SXL.move rfl ?_
      apply SXL.orG 14
      case hl => exact rfl
      case hd => exact rfl
      case hg => exact rfl
      case ht =>
        intro c60
        refine SXL.pass rfl rfl rfl ?_
        refine SXL.pass rfl rfl rfl ?_
        refine SXL.pass rfl rfl rfl ?_
        refine SXL.pass rfl rfl rfl ?_
        refine SXL.pass rfl rfl rfl ?_
        refine SXL.pass rfl rfl rfl ?_
        refine SXL.pass rfl rfl rfl ?_
        refine SXL.pass rfl rfl rfl ?_
        refine SXL.pass rfl rfl rfl ?_
        refine SXL.pass rfl rfl rfl ?_
        refine SXL.pass rfl rfl rfl ?_
        refine SXL.pass rfl rfl rfl ?_
        refine SXL.pass rfl rfl rfl ?_
        refine SXL.pass rfl rfl rfl ?_
        exact SXL.nil (segQ.mk (.skip rfl (.skip rfl (.skip rfl (.skip rfl (.skip rfl (.skip rfl (.skip rfl (.skip rfl (.skip rfl (.skip rfl (.skip rfl (.skip rfl (.skip rfl (.skip rfl (.skip rfl (EnvSub.refl _)))))))))))))))) rfl rfl rfl)
      case hf =>
        intro c60
        refine SXL.fieldAddr fp_25_0 rfl ?_
        refine SXL.load1o 0 sh_22 rfl rfl rfl ?_
        refine SXL.move rfl ?_
        refine SXL.indexR el_22 rfl rfl ha (by omega) ?_
        refine SXL.fieldAddr fp_70_1 rfl ?_
        refine SXL.loadN sh_68 rfl ((hm _).sub (j := 1) (k := 9) rfl) rfl ?_
        refine SXL.fieldAddr fp_25_0 rfl ?_
        refine SXL.load1o 1 sh_22 rfl rfl rfl ?_
        refine SXL.move rfl ?_
        refine SXL.indexR el_22 rfl rfl ha2 (by omega) ?_
        refine SXL.fieldAddr fp_70_1 rfl ?_
        refine SXL.loadN sh_68 rfl ((hn _).sub (j := 1) (k := 9) rfl) rfl ?_
        refine SXL.call1 (.bool (decide ((u.founts.getD k default).sp = (v.founts.getD k default).sp))) fn_54 rfl (fun w hI => same_any (u.founts.getD k default).sp (v.founts.getD k default).sp (fa k).bo (fa k).ro (ga k).bo (ga k).ro (fa k).bc (fa k).rc (ga k).bc (ga k).rc (by omega) (by omega) w ((hs.springs k (by omega)).inv hI) ((ht.springs k (by omega)).inv hI)) ?_
        refine SXL.not rfl ?_
        exact SXL.nil (segQ.mk (.skip rfl (.skip rfl (.skip rfl (.skip rfl (.skip rfl (.skip rfl (.skip rfl (.skip rfl (.skip rfl (.skip rfl (.skip rfl (.skip rfl (.skip rfl (.skip rfl (.skip rfl (EnvSub.refl _)))))))))))))))) rfl rfl ⟨rfl, rfl⟩)
      refine SXL.nil ⟨rfl, rfl, rfl, ?_⟩
      refine SXA.done (by kernel_rfl) ?_
      refine SXL.nil ?_
      refine thenQ.normal ?_
      refine SX.condP rfl (fun c60 => ?_) (fun c60 => ?_)
      · refine SX.seq ?_
        refine SX.region ?_
        refine SXL.assign rfl ?_
        refine SXL.nil ?_
        refine thenQ.normal ?_
        refine SX.ret ?_
        refine blockQ.ret ?_
        refine thenQ.ret ?_
        refine thenQ.ret ?_
        refine blockQ.ret ?_
        refine thenQ.ret ?_
        refine retQ.one (ResAt.tmp rfl) ?_
        exact congrArg Value.bool (decide_eq_false (by intro h; subst h; rcases c60 with c | c; exact c rfl; exact c rfl)).symm
      · refine SX.skip ?_
        refine blockQ.normal ?_
        refine thenQ.normal ?_
        refine SX.region ?_
        refine SXL.move rfl ?_
        refine SXL.add rfl rfl (by omega) ?_
        refine SXL.assign rfl ?_
        refine SXL.nil ?_
        refine thenQ.normal ?_
        refine ⟨k + 1, Meets.mk _ ⟨rfl, trivial⟩ ⟨rfl, rfl, rfl, trivial⟩ rfl, ?_, (by omega)⟩
        refine ⟨by omega, fun i hi => ?_⟩
        by_cases e : i = k
        · subst e; obtain ⟨c1, c2⟩ := not_or.1 c60
          exact ⟨Decidable.not_not.1 c1, Decidable.not_not.1 c2⟩
        · exact hall i (by omega)
    · refine SX.exit ?_
      refine thenQ.exit ?_
      refine thenQ.exit ?_
      refine blockQ.exit ?_
      refine thenQ.normal ?_
      refine SX.seq ?_
      refine SX.seq ?_
      have hlen := not_or.1 c24
      refine SX.region ?_
      refine SXL.assign rfl ?_
      refine SXL.nil ?_
      refine thenQ.normal ?_
      refine SX.block ?_
      refine SX.loopG (α := Nat) [2, 3, 4] rfl (fun k => [(6, .int .i64 ((k : Int)))]) (fun k => []) (fun k => k ≤ u.streets.length ∧ ∀ i, i < k → u.streets.getD i default = v.streets.getD i default) (fun k => u.streets.length - k) 0 ⟨Nat.zero_le _, fun _ h => absurd h (Nat.not_lt_zero _)⟩ ⟨rfl, trivial⟩ rfl ?_
      rintro k ⟨hk2, hall2⟩
      refine SX.seq ?_
      refine SX.seq ?_
      refine SX.region ?_
      refine SXL.move rfl ?_
      refine SXL.fieldAddr fp_25_1 rfl ?_
      refine SXL.load1o 0 sh_23 rfl rfl rfl ?_
      refine SXL.len is_23 rfl ?_
      refine SXL.lss rfl rfl ?_
      refine SXL.nil ?_
      refine thenQ.normal ?_
      refine SX.condP rfl (fun c65 => ?_) (fun c65 => ?_)
      · refine SX.skip ?_
        refine thenQ.normal ?_
        refine SX.seq ?_
        refine SX.block ?_
        refine SX.seq ?_
        obtain ⟨b, o, ha, hm⟩ := hs.street (i := k) (by omega)
        obtain ⟨b2, o2, ha2, hn⟩ := ht.street (i := k) (by omega)
        have hLk := hL2 k (by omega)
        refine SX.draw 14 (by kernel_rfl) (by kernel_rfl) ⟨[5, 6, 7, 8, 9, 13], [true, true, false, false]⟩ ?_
        refine SXA.take 0 5 rfl (by kernel_rfl) rfl ?_
        refine SXL.fieldAddr fp_25_1 rfl ?_
        refine SXL.load1o 0 sh_23 rfl rfl rfl ?_
        refine SXL.move rfl ?_
        refine SXL.indexR el_23 rfl rfl ha (by omega) ?_
        refine SXL.loadN sh_73 rfl (hm _) rfl ?_
        refine SXL.nil ⟨rfl, rfl, rfl, ?_⟩
        refine SXA.takeM 5 5 rfl (by kernel_rfl) rfl ?_
        refine SXL.fieldAddr fp_25_1 rfl ?_
        refine SXL.load1o 1 sh_23 rfl rfl rfl ?_
        refine SXL.move rfl ?_
        refine SXL.indexR el_23 rfl rfl ha2 (by omega) ?_
        refine SXL.loadN sh_73 rfl (hn _) rfl ?_
        refine SXL.nil ⟨rfl, rfl, rfl, ?_⟩
        refine SXA.all [10, 11] (by kernel_rfl) rfl ⟨⟨?_, rfl⟩, ⟨?_, rfl⟩, trivial⟩
        · refine (show SXL _ _ [_] _ _ from ?_)
          refine SXL.alloc zp_73 ?_; intro b2
          refine SXL.nil (stepQ.mk _ rfl rfl ?_)
          refine SXA.all [11] (by kernel_rfl) rfl ⟨⟨?_, rfl⟩, trivial⟩
          refine (show SXL _ _ [_] _ _ from ?_)
          refine SXL.alloc zp_73 ?_; intro b3
          refine SXL.nil (stepQ.mk _ rfl rfl ?_)
          refine SXA.all [12] (by kernel_rfl) rfl ⟨⟨?_, rfl⟩, trivial⟩
          refine (show SXL _ _ [_] _ _ from ?_)
          refine SXL.store 2 sz_73 rfl rfl rfl rfl rfl rfl ?_
          refine SXL.nil (stepQ.mkL _ (by kernel_rfl) rfl rfl ?_)
          refine SXA.all [13] (by kernel_rfl) rfl ⟨⟨?_, rfl⟩, trivial⟩
          refine (show SXL _ _ [_] _ _ from ?_)
          refine SXL.store 3 sz_73 rfl rfl rfl rfl rfl rfl ?_
          refine SXL.nil (stepQ.mkL _ (by kernel_rfl) rfl rfl ?_)
          refine SXA.done (by kernel_rfl) ?_
          refine SXL.nil ?_
          refine thenQ.normal ?_
          refine SX.seq ?_
          refine SX.region ?_
          refine SXL.fieldAddr fp_73_0 rfl ?_
          refine SXL.load1o 2 sh_3 rfl rfl rfl ?_
          refine SXL.fieldAddr fp_73_0 rfl ?_
          refine SXL.load1o 3 sh_3 rfl rfl rfl ?_
          refine SXL.neqI rfl rfl ?_
          refine SXL.move rfl ?_
          apply SXL.orG 5
          case hl => exact rfl
          case hd => exact rfl
          case hg => exact rfl
          case ht =>
            intro g7
            refine SXL.pass rfl rfl rfl ?_
            refine SXL.pass rfl rfl rfl ?_
            refine SXL.pass rfl rfl rfl ?_
            refine SXL.pass rfl rfl rfl ?_
            refine SXL.pass rfl rfl rfl ?_
            exact SXL.nil (segQ.mk (.skip rfl (.skip rfl (.skip rfl (.skip rfl (.skip rfl (.skip rfl (EnvSub.refl _))))))) rfl rfl rfl)
          case hf =>
            intro g7
            refine SXL.fieldAddr fp_73_1 rfl ?_
            refine SXL.loadNo 2 sh_55 rfl rfl rfl ?_
            refine SXL.fieldAddr fp_73_1 rfl ?_
            refine SXL.loadNo 3 sh_55 rfl rfl rfl ?_
            refine SXL.neqV (p := [(u.streets.getD k default).n0, (u.streets.getD k default).n1] ≠ [(v.streets.getD k default).n0, (v.streets.getD k default).n1]) (u := .agg ⟨ints ([(u.streets.getD k default).n0, (u.streets.getD k default).n1])⟩) (v := .agg ⟨ints ([(v.streets.getD k default).n0, (v.streets.getD k default).n1])⟩) rfl rfl (run_neq_ints eq_55 eg_55 sh_55 rfl rfl) ?_
            exact SXL.nil (segQ.mk (.skip rfl (.skip rfl (.skip rfl (.skip rfl (.skip rfl (.skip rfl (EnvSub.refl _))))))) rfl rfl ⟨rfl, rfl⟩)
          refine SXL.move rfl ?_
          apply SXL.orG 5
          case hl => exact rfl
          case hd => exact rfl
          case hg => exact rfl
          case ht =>
            intro g8
            refine SXL.pass rfl rfl rfl ?_
            refine SXL.pass rfl rfl rfl ?_
            refine SXL.pass rfl rfl rfl ?_
            refine SXL.pass rfl rfl rfl ?_
            refine SXL.pass rfl rfl rfl ?_
            exact SXL.nil (segQ.mk (.skip rfl (.skip rfl (.skip rfl (.skip rfl (.skip rfl (.skip rfl (EnvSub.refl _))))))) rfl rfl rfl)
          case hf =>
            intro g8
            refine SXL.fieldAddr fp_73_2 rfl ?_
            refine SXL.load1o 2 sh_3 rfl rfl rfl ?_
            refine SXL.fieldAddr fp_73_2 rfl ?_
            refine SXL.load1o 3 sh_3 rfl rfl rfl ?_
            refine SXL.neqI rfl rfl ?_
            exact SXL.nil (segQ.mk (.skip rfl (.skip rfl (.skip rfl (.skip rfl (.skip rfl (.skip rfl (EnvSub.refl _))))))) rfl rfl ⟨rfl, rfl⟩)
          refine SXL.move rfl ?_
          apply SXL.orG 6
          case hl => exact rfl
          case hd => exact rfl
          case hg => exact rfl
          case ht =>
            intro c104
            refine SXL.pass rfl rfl rfl ?_
            refine SXL.pass rfl rfl rfl ?_
            refine SXL.pass rfl rfl rfl ?_
            refine SXL.pass rfl rfl rfl ?_
            refine SXL.pass rfl rfl rfl ?_
            refine SXL.pass rfl rfl rfl ?_
            exact SXL.nil (segQ.mk (.skip rfl (.skip rfl (.skip rfl (.skip rfl (.skip rfl (.skip rfl (.skip rfl (EnvSub.refl _)))))))) rfl rfl rfl)
          case hf =>
            intro c104
            refine SXL.fieldAddr fp_73_3 rfl ?_
            refine SXL.load1o 2 sh_33 rfl rfl rfl ?_
            refine SXL.fieldAddr fp_73_3 rfl ?_
            refine SXL.load1o 3 sh_33 rfl rfl rfl ?_
            refine SXL.call1 (.bool (decide ((u.streets.getD k default).draws = (v.streets.getD k default).draws))) fn_53 rfl (fun w hI => sameInts_any (u.streets.getD k default).draws (v.streets.getD k default).draws (sa k).1 (ta k).1 (sa k).2 (ta k).2 (by omega) w ((hs.draws k (by omega)).inv hI) ((ht.draws k (by omega)).inv hI)) ?_
            refine SXL.not rfl ?_
            exact SXL.nil (segQ.mk (.skip rfl (.skip rfl (.skip rfl (.skip rfl (.skip rfl (.skip rfl (.skip rfl (EnvSub.refl _)))))))) rfl rfl ⟨rfl, rfl⟩)
          refine SXL.nil ?_
          refine thenQ.normal ?_
          refine SX.condP rfl (fun c104 => ?_) (fun c104 => ?_)
          · refine SX.seq ?_
            refine SX.region ?_
            refine SXL.assign rfl ?_
            refine SXL.nil ?_
            refine thenQ.normal ?_
            refine SX.ret ?_
            refine blockQ.ret ?_
            refine thenQ.ret ?_
            refine thenQ.ret ?_
            refine blockQ.ret ?_
            refine thenQ.ret ?_
            refine retQ.one (ResAt.tmp rfl) ?_
            exact congrArg Value.bool (decide_eq_false (by intro h; subst h; rcases c104 with ((c | c) | c) | c; all_goals exact c rfl)).symm
          · refine SX.skip ?_
            refine blockQ.normal ?_
            refine thenQ.normal ?_
            refine SX.region ?_
            refine SXL.move rfl ?_
            refine SXL.add rfl rfl (by omega) ?_
            refine SXL.assign rfl ?_
            refine SXL.nil ?_
            refine thenQ.normal ?_
            refine ⟨k + 1, Meets.mk _ ⟨rfl, trivial⟩ ⟨rfl, rfl, rfl, trivial⟩ rfl, ?_, (by omega)⟩
            refine ⟨by omega, fun i hi => ?_⟩
            by_cases e : i = k
            · subst e
              obtain ⟨c4, c1⟩ := not_or.1 c104
              obtain ⟨c4, c2⟩ := not_or.1 c4
              obtain ⟨c4, c3⟩ := not_or.1 c4
              exact sr_ext (Decidable.not_not.1 c4) (Decidable.not_not.1 c3) (Decidable.not_not.1 c2) (Decidable.not_not.1 c1)
            · exact hall2 i (by omega)
        · refine (show SXL _ _ [_] _ _ from ?_)
          refine SXL.alloc zp_73 ?_; intro b2
          refine SXL.nil (stepQ.mk _ rfl rfl ?_)
          refine SXA.all [10] (by kernel_rfl) rfl ⟨⟨?_, rfl⟩, trivial⟩
          refine (show SXL _ _ [_] _ _ from ?_)
          refine SXL.alloc zp_73 ?_; intro b3
          refine SXL.nil (stepQ.mk _ rfl rfl ?_)
          refine SXA.all [12] (by kernel_rfl) rfl ⟨⟨?_, rfl⟩, trivial⟩
          refine (show SXL _ _ [_] _ _ from ?_)
          refine SXL.store 3 sz_73 rfl rfl rfl rfl rfl rfl ?_
          refine SXL.nil (stepQ.mkL _ (by kernel_rfl) rfl rfl ?_)
          refine SXA.all [13] (by kernel_rfl) rfl ⟨⟨?_, rfl⟩, trivial⟩
          refine (show SXL _ _ [_] _ _ from ?_)
          refine SXL.store 2 sz_73 rfl rfl rfl rfl rfl rfl ?_
          refine SXL.nil (stepQ.mkL _ (by kernel_rfl) rfl rfl ?_)
          refine SXA.done (by kernel_rfl) ?_
          refine SXL.nil ?_
          refine thenQ.normal ?_
          refine SX.seq ?_
          refine SX.region ?_
          refine SXL.fieldAddr fp_73_0 rfl ?_
          refine SXL.load1o 3 sh_3 rfl rfl rfl ?_
          refine SXL.fieldAddr fp_73_0 rfl ?_
          refine SXL.load1o 2 sh_3 rfl rfl rfl ?_
          refine SXL.neqI rfl rfl ?_
          refine SXL.move rfl ?_
          apply SXL.orG 5
          case hl => exact rfl
          case hd => exact rfl
          case hg => exact rfl
          case ht =>
            intro g11
            refine SXL.pass rfl rfl rfl ?_
            refine SXL.pass rfl rfl rfl ?_
            refine SXL.pass rfl rfl rfl ?_
            refine SXL.pass rfl rfl rfl ?_
            refine SXL.pass rfl rfl rfl ?_
            exact SXL.nil (segQ.mk (.skip rfl (.skip rfl (.skip rfl (.skip rfl (.skip rfl (.skip rfl (EnvSub.refl _))))))) rfl rfl rfl)
          case hf =>
            intro g11
            refine SXL.fieldAddr fp_73_1 rfl ?_
            refine SXL.loadNo 3 sh_55 rfl rfl rfl ?_
            refine SXL.fieldAddr fp_73_1 rfl ?_
            refine SXL.loadNo 2 sh_55 rfl rfl rfl ?_
            refine SXL.neqV (p := [(u.streets.getD k default).n0, (u.streets.getD k default).n1] ≠ [(v.streets.getD k default).n0, (v.streets.getD k default).n1]) (u := .agg ⟨ints ([(u.streets.getD k default).n0, (u.streets.getD k default).n1])⟩) (v := .agg ⟨ints ([(v.streets.getD k default).n0, (v.streets.getD k default).n1])⟩) rfl rfl (run_neq_ints eq_55 eg_55 sh_55 rfl rfl) ?_
            exact SXL.nil (segQ.mk (.skip rfl (.skip rfl (.skip rfl (.skip rfl (.skip rfl (.skip rfl (EnvSub.refl _))))))) rfl rfl ⟨rfl, rfl⟩)
          refine SXL.move rfl ?_
          apply SXL.orG 5
          case hl => exact rfl
          case hd => exact rfl
          case hg => exact rfl
          case ht =>
            intro g12
            refine SXL.pass rfl rfl rfl ?_
            refine SXL.pass rfl rfl rfl ?_
            refine SXL.pass rfl rfl rfl ?_
            refine SXL.pass rfl rfl rfl ?_
            refine SXL.pass rfl rfl rfl ?_
            exact SXL.nil (segQ.mk (.skip rfl (.skip rfl (.skip rfl (.skip rfl (.skip rfl (.skip rfl (EnvSub.refl _))))))) rfl rfl rfl)
          case hf =>
            intro g12
            refine SXL.fieldAddr fp_73_2 rfl ?_
            refine SXL.load1o 3 sh_3 rfl rfl rfl ?_
            refine SXL.fieldAddr fp_73_2 rfl ?_
            refine SXL.load1o 2 sh_3 rfl rfl rfl ?_
            refine SXL.neqI rfl rfl ?_
            exact SXL.nil (segQ.mk (.skip rfl (.skip rfl (.skip rfl (.skip rfl (.skip rfl (.skip rfl (EnvSub.refl _))))))) rfl rfl ⟨rfl, rfl⟩)
          refine SXL.move rfl ?_
          apply SXL.orG 6
          case hl => exact rfl
          case hd => exact rfl
          case hg => exact rfl
          case ht =>
            intro c104
            refine SXL.pass rfl rfl rfl ?_
            refine SXL.pass rfl rfl rfl ?_
            refine SXL.pass rfl rfl rfl ?_
            refine SXL.pass rfl rfl rfl ?_
            refine SXL.pass rfl rfl rfl ?_
            refine SXL.pass rfl rfl rfl ?_
            exact SXL.nil (segQ.mk (.skip rfl (.skip rfl (.skip rfl (.skip rfl (.skip rfl (.skip rfl (.skip rfl (EnvSub.refl _)))))))) rfl rfl rfl)
          case hf =>
            intro c104
            refine SXL.fieldAddr fp_73_3 rfl ?_
            refine SXL.load1o 3 sh_33 rfl rfl rfl ?_
            refine SXL.fieldAddr fp_73_3 rfl ?_
            refine SXL.load1o 2 sh_33 rfl rfl rfl ?_
            refine SXL.call1 (.bool (decide ((u.streets.getD k default).draws = (v.streets.getD k default).draws))) fn_53 rfl (fun w hI => sameInts_any (u.streets.getD k default).draws (v.streets.getD k default).draws (sa k).1 (ta k).1 (sa k).2 (ta k).2 (by omega) w ((hs.draws k (by omega)).inv hI) ((ht.draws k (by omega)).inv hI)) ?_
            refine SXL.not rfl ?_
            exact SXL.nil (segQ.mk (.skip rfl (.skip rfl (.skip rfl (.skip rfl (.skip rfl (.skip rfl (.skip rfl (EnvSub.refl _)))))))) rfl rfl ⟨rfl, rfl⟩)
          refine SXL.nil ?_
          refine thenQ.normal ?_
          refine SX.condP rfl (fun c104 => ?_) (fun c104 => ?_)
          · refine SX.seq ?_
            refine SX.region ?_
            refine SXL.assign rfl ?_
            refine SXL.nil ?_
            refine thenQ.normal ?_
            refine SX.ret ?_
            refine blockQ.ret ?_
            refine thenQ.ret ?_
            refine thenQ.ret ?_
            refine blockQ.ret ?_
            refine thenQ.ret ?_
            refine retQ.one (ResAt.tmp rfl) ?_
            exact congrArg Value.bool (decide_eq_false (by intro h; subst h; rcases c104 with ((c | c) | c) | c; all_goals exact c rfl)).symm
          · refine SX.skip ?_
            refine blockQ.normal ?_
            refine thenQ.normal ?_
            refine SX.region ?_
            refine SXL.move rfl ?_
            refine SXL.add rfl rfl (by omega) ?_
            refine SXL.assign rfl ?_
            refine SXL.nil ?_
            refine thenQ.normal ?_
            refine ⟨k + 1, Meets.mk _ ⟨rfl, trivial⟩ ⟨rfl, rfl, rfl, trivial⟩ rfl, ?_, (by omega)⟩
            refine ⟨by omega, fun i hi => ?_⟩
            by_cases e : i = k
            · subst e
              obtain ⟨c4, c1⟩ := not_or.1 c104
              obtain ⟨c4, c2⟩ := not_or.1 c4
              obtain ⟨c4, c3⟩ := not_or.1 c4
              exact sr_ext (Decidable.not_not.1 c4) (Decidable.not_not.1 c3) (Decidable.not_not.1 c2) (Decidable.not_not.1 c1)
            · exact hall2 i (by omega)
      · refine SX.exit ?_
        refine thenQ.exit ?_
        refine thenQ.exit ?_
        refine blockQ.exit ?_
        refine thenQ.normal ?_
        refine SX.seq ?_
        refine SX.region ?_
        refine SXL.assign rfl ?_
        refine SXL.nil ?_
        refine thenQ.normal ?_
        refine SX.ret ?_
        refine retQ.one (ResAt.tmp rfl) ?_
        exact congrArg Value.bool (decide_eq_true (su_ext (by omega) (by omega) (fun i hi => hall i (by omega)) (fun i hi => hall2 i (by omega)))).symm
theorem great9_any (u : Su) (fo so : Option Addr) (fc sc : Nat) (fa : Nat → FA) (sa : Nat → DA) (w : World) (hs : SuAt w u fo so fa sa) :
    CallsR Tryd.prog 6 [.agg ⟨[.slice fo u.founts.length fc, .slice so u.streets.length sc]⟩] w (fun v _ => v = .bool (decide (¬LitP u))) := by
  refine CallsR.of_SX (n := 40) (rs := [.tmp 2]) Tryd.func6 rfl rfl rfl rfl ?_
  show SX _ _ _ ⟨[(0, .agg ⟨[.slice fo u.founts.length fc, .slice so u.streets.length sc]⟩)], [], []⟩
  refine SX.seq ?_
  refine SX.region ?_
  refine SXL.box rfl rfl ?_; intro b0
  refine SXL.assign rfl ?_
  refine SXL.nil ?_
  refine thenQ.normal ?_
  refine SX.seq ?_
  refine SX.seq ?_
  refine SX.region ?_
  refine SXL.fieldAddr fp_25_0 rfl ?_
  refine SXL.load1o 0 sh_22 rfl rfl rfl ?_
  refine SXL.len is_22 rfl ?_
  refine SXL.gtr rfl rfl ?_
  refine SXL.move rfl ?_
  apply SXL.orG 4
  case hl => exact rfl
  case hd => exact rfl
  case hg => exact rfl
  case ht =>
    intro c16
    refine SXL.pass rfl rfl rfl ?_
    refine SXL.pass rfl rfl rfl ?_
    refine SXL.pass rfl rfl rfl ?_
    refine SXL.pass rfl rfl rfl ?_
    exact SXL.nil (segQ.mk (.skip rfl (.skip rfl (.skip rfl (.skip rfl (.skip rfl (EnvSub.refl _)))))) rfl rfl rfl)
  case hf =>
    intro c16
    refine SXL.fieldAddr fp_25_1 rfl ?_
    refine SXL.load1o 0 sh_23 rfl rfl rfl ?_
    refine SXL.len is_23 rfl ?_
    refine SXL.gtr rfl rfl ?_
    exact SXL.nil (segQ.mk (.skip rfl (.skip rfl (.skip rfl (.skip rfl (.skip rfl (EnvSub.refl _)))))) rfl rfl ⟨rfl, rfl⟩)
  refine SXL.nil ?_
  refine thenQ.normal ?_
  refine SX.condP rfl (fun c16 => ?_) (fun c16 => ?_)
  · refine SX.seq ?_
    refine SX.region ?_
    refine SXL.assign rfl ?_
    refine SXL.nil ?_
    refine thenQ.normal ?_
    refine SX.ret ?_
    refine thenQ.ret ?_
    refine retQ.one (ResAt.tmp rfl) ?_
    exact congrArg Value.bool (decide_eq_true (p := ¬LitP u) ((fun h => by have := h.1; omega))).symm
  · refine SX.skip ?_
    refine thenQ.normal ?_
    refine SX.seq ?_
    refine SX.seq ?_
    refine SX.region ?_
    refine SXL.fieldAddr fp_25_0 rfl ?_
    refine SXL.load1o 0 sh_22 rfl rfl rfl ?_
    refine SXL.len is_22 rfl ?_
    refine SXL.move rfl ?_
    refine SXL.nil ?_
    refine thenQ.normal ?_
    refine SX.block ?_
    refine SX.loopG (α := Nat) [1, 2, 18, 19] rfl (fun k => [(20, .int .i64 ((k : Int)))]) (fun k => []) (fun k => k ≤ u.founts.length ∧ ∀ i, i < k → (u.founts.getD i default).sp.book.length ≤ 30 ∧ (u.founts.getD i default).sp.reads.length ≤ 30) (fun k => u.founts.length - k) 0 ⟨Nat.zero_le _, fun _ h => absurd h (Nat.not_lt_zero _)⟩ ⟨rfl, trivial⟩ rfl ?_
    rintro k ⟨hk, hall⟩
    refine SX.seq ?_
    refine SX.region ?_
    refine SXL.lss rfl rfl ?_
    refine SXL.nil ?_
    refine thenQ.normal ?_
    refine SX.seq ?_
    refine SX.condP rfl (fun c21 => ?_) (fun c21 => ?_)
    · refine SX.skip ?_
      refine thenQ.normal ?_
      refine SX.seq ?_
      refine SX.block ?_
      refine SX.seq ?_
      obtain ⟨b, o, ha, hm⟩ := hs.fount (i := k) (by omega)
      refine SX.region ?_
      refine SXL.indexR el_22 rfl rfl ha (by omega) ?_
      refine SXL.loadN sh_70 rfl (hm _) rfl ?_
      refine SXL.alloc zp_70 ?_; intro b1
      refine SXL.store 1 sz_70 rfl rfl rfl rfl rfl rfl ?_
      refine SXL.nil ?_
      refine thenQ.normal ?_
      refine SX.seq ?_
      refine SX.region ?_
      refine SXL.fieldAddr fp_70_1 rfl ?_
      refine SXL.loadNo 1 sh_68 rfl rfl rfl ?_
      refine SXL.call1 (.bool (decide ((30 : Int) < ((u.founts.getD k default).sp.book.length : Int) ∨ (30 : Int) < ((u.founts.getD k default).sp.reads.length : Int)))) fn_37 rfl (fun w hI => great_any (u.founts.getD k default).sp (fa k).bo (fa k).ro (fa k).bc (fa k).rc _) ?_
      refine SXL.nil ?_
      refine thenQ.normal ?_
      refine SX.condP rfl (fun c26 => ?_) (fun c26 => ?_)
      · refine SX.seq ?_
        refine SX.region ?_
        refine SXL.assign rfl ?_
        refine SXL.nil ?_
        refine thenQ.normal ?_
        refine SX.ret ?_
        refine blockQ.ret ?_
        refine thenQ.ret ?_
        refine thenQ.ret ?_
        refine blockQ.ret ?_
        refine thenQ.ret ?_
        refine retQ.one (ResAt.tmp rfl) ?_
        exact congrArg Value.bool (decide_eq_true (p := ¬LitP u) ((fun h => by have := h.2.1 k (by omega); omega))).symm
      · refine SX.skip ?_
        refine blockQ.normal ?_
        refine thenQ.normal ?_
        refine SX.region ?_
        refine SXL.add rfl rfl (by omega) ?_
        refine SXL.move rfl ?_
        refine SXL.nil ?_
        refine thenQ.normal ?_
        refine ⟨k + 1, Meets.mk _ ⟨rfl, trivial⟩ ⟨rfl, rfl, rfl, rfl, trivial⟩ rfl, ?_, (by omega)⟩
        refine ⟨by omega, fun i hi => ?_⟩
        by_cases e : i = k
        · subst e; omega
        · exact hall i (by omega)
    · refine SX.exit ?_
      refine thenQ.exit ?_
      refine thenQ.exit ?_
      refine blockQ.exit ?_
      refine thenQ.normal ?_
      refine SX.seq ?_
      refine SX.seq ?_
      refine SX.region ?_
      refine SXL.fieldAddr fp_25_1 rfl ?_
      refine SXL.load1o 0 sh_23 rfl rfl rfl ?_
      refine SXL.len is_23 rfl ?_
      refine SXL.move rfl ?_
      refine SXL.nil ?_
      refine thenQ.normal ?_
      refine SX.block ?_
      refine SX.loopG (α := Nat) [2, 29, 30] rfl (fun k => [(31, .int .i64 ((k : Int)))]) (fun k => []) (fun k => k ≤ u.streets.length ∧ ∀ i, i < k → (u.streets.getD i default).draws.length ≤ 20) (fun k => u.streets.length - k) 0 ⟨Nat.zero_le _, fun _ h => absurd h (Nat.not_lt_zero _)⟩ ⟨rfl, trivial⟩ rfl ?_
      rintro k ⟨hk2, hall2⟩
      refine SX.seq ?_
      refine SX.region ?_
      refine SXL.lss rfl rfl ?_
      refine SXL.nil ?_
      refine thenQ.normal ?_
      refine SX.seq ?_
      refine SX.condP rfl (fun c32 => ?_) (fun c32 => ?_)
      · refine SX.skip ?_
        refine thenQ.normal ?_
        refine SX.seq ?_
        refine SX.block ?_
        refine SX.seq ?_
        obtain ⟨b, o, ha, hm⟩ := hs.street (i := k) (by omega)
        refine SX.region ?_
        refine SXL.indexR el_23 rfl rfl ha (by omega) ?_
        refine SXL.loadN sh_73 rfl (hm _) rfl ?_
        refine SXL.alloc zp_73 ?_; intro b1
        refine SXL.store 1 sz_73 rfl rfl rfl rfl rfl rfl ?_
        refine SXL.nil ?_
        refine thenQ.normal ?_
        refine SX.seq ?_
        refine SX.region ?_
        refine SXL.fieldAddr fp_73_3 rfl ?_
        refine SXL.load1o 1 sh_33 rfl rfl rfl ?_
        refine SXL.len is_33 rfl ?_
        refine SXL.gtr rfl rfl ?_
        refine SXL.nil ?_
        refine thenQ.normal ?_
        refine SX.condP rfl (fun c38 => ?_) (fun c38 => ?_)
        · refine SX.seq ?_
          refine SX.region ?_
          refine SXL.assign rfl ?_
          refine SXL.nil ?_
          refine thenQ.normal ?_
          refine SX.ret ?_
          refine blockQ.ret ?_
          refine thenQ.ret ?_
          refine thenQ.ret ?_
          refine blockQ.ret ?_
          refine thenQ.ret ?_
          refine retQ.one (ResAt.tmp rfl) ?_
          exact congrArg Value.bool (decide_eq_true (p := ¬LitP u) ((fun h => by have := h.2.2 k (by omega); omega))).symm
        · refine SX.skip ?_
          refine blockQ.normal ?_
          refine thenQ.normal ?_
          refine SX.region ?_
          refine SXL.add rfl rfl (by omega) ?_
          refine SXL.move rfl ?_
          refine SXL.nil ?_
          refine thenQ.normal ?_
          refine ⟨k + 1, Meets.mk _ ⟨rfl, trivial⟩ ⟨rfl, rfl, rfl, trivial⟩ rfl, ?_, (by omega)⟩
          refine ⟨by omega, fun i hi => ?_⟩
          by_cases e : i = k
          · subst e; omega
          · exact hall2 i (by omega)
      · refine SX.exit ?_
        refine thenQ.exit ?_
        refine thenQ.exit ?_
        refine blockQ.exit ?_
        refine thenQ.normal ?_
        refine SX.seq ?_
        refine SX.region ?_
        refine SXL.assign rfl ?_
        refine SXL.nil ?_
        refine thenQ.normal ?_
        refine SX.ret ?_
        refine retQ.one (ResAt.tmp rfl) ?_
        exact congrArg Value.bool (decide_eq_false (p := ¬LitP u) (fun h => h ⟨by omega, fun i hi => hall i (by omega), fun i hi => hall2 i (by omega)⟩)).symm
set_option maxHeartbeats 4000000 in
theorem twinX_any (u : Su) (fo so : Option Addr) (fc sc : Nat) (fa : Nat → FA) (sa : Nat → DA) (hl : LitP u) (w : World) (hs : SuAt w u fo so fa sa) :
    CallsR Tryd.prog 7 [.agg ⟨[.slice fo u.founts.length fc, .slice so u.streets.length sc]⟩] w (TwX u) := by
  have hL0 := hl.1
  have hL1 := hl.2.1
  have hL2 := hl.2.2
  refine CallsR.of_SX (n := 47) (rs := [.cell 2 25]) Tryd.func7 rfl rfl rfl rfl ?_
  show SX _ _ _ ⟨[(0, .agg ⟨[.slice fo u.founts.length fc, .slice so u.streets.length sc]⟩)], [], []⟩
  refine SX.seq ?_
  refine SX.region ?_
  refine SXL.box rfl rfl ?_; intro b0
  refine SXL.alloc zp_25 ?_; intro b1
  refine SXL.nil ?_
  refine thenQ.normal ?_
  refine SX.seq ?_
  refine SX.region ?_
  refine SXL.alloc zp_25 ?_; intro b2
  refine SXL.nil ?_
  refine thenQ.normal ?_
  refine SX.seq ?_
  refine SX.seq ?_
  refine SX.pad (Sl.nil.ent 70 []) rfl ?_
  refine SX.region ?_
  refine SXL.fieldAddr fp_25_0 rfl ?_
  refine SXL.load1o 0 sh_22 rfl rfl rfl ?_
  refine SXL.len is_22 rfl ?_
  refine SXL.move rfl ?_
  refine SXL.nil ?_
  refine thenQ.normal ?_
  refine SX.block ?_
  refine SX.loopW (α := Nat × Sl × Nat × List Value × X.Own × (Nat → FA)) [1, 2, 3, 9, 10] rfl (fun ⟨k, q, n, c, T, ga⟩ => [(11, .int .i64 ((k : Int)))]) (fun ⟨k, q, n, c, T, ga⟩ => [(b0, .cells ⟨[.slice fo u.founts.length fc, .slice so u.streets.length sc]⟩ 25 (0, 0)), (b1, .cells ⟨[.slice none 0 0, .slice none 0 0]⟩ 25 (0, 0)), (b2, .cells ⟨[q.val n, .slice none 0 0]⟩ 25 (0, 0)), q.ent 70 c]) (fun ⟨k, q, n, c, T, ga⟩ => T) (fun ⟨k, q, n, c, T, ga⟩ => k ≤ u.founts.length ∧ q.Ok n 10 c ∧ k = n ∧ c = (foRowsN u ga k).flatten ∧ SpHas T u ga k) (fun ⟨k, q, n, c, T, ga⟩ => u.founts.length - k) (0, Sl.nil, 0, [], [], fun _ => default) ⟨Nat.zero_le _, .none _, rfl, rfl, fun i hi => absurd hi (Nat.not_lt_zero _)⟩ ⟨rfl, trivial⟩ rfl ?_
  rintro ⟨k, q, n, c, T, ga⟩ ⟨hk, ho, rfl, rfl, hT⟩
  refine SX.seq ?_
  refine SX.region ?_
  refine SXL.lss rfl rfl ?_
  refine SXL.nil ?_
  refine thenQ.normal ?_
  refine SX.seq ?_
  refine SX.condP rfl (fun c12 => ?_) (fun c12 => ?_)
  · refine SX.skip ?_
    refine thenQ.normal ?_
    refine SX.seq ?_
    refine SX.block ?_
    refine SX.seq ?_
    obtain ⟨b, o, ha, hm⟩ := hs.fount (i := k) (by omega)
    have hLk := hL1 k (by omega)
    refine SX.region ?_
    refine SXL.indexR el_22 rfl rfl ha (by omega) ?_
    refine SXL.loadN sh_70 rfl (hm _) rfl ?_
    refine SXL.alloc zp_70 ?_; intro b4
    refine SXL.insN 4 ?_
    refine SXL.store 4 sz_70 rfl rfl rfl rfl rfl rfl ?_
    refine SXL.nil ?_
    refine thenQ.normal ?_
    refine SX.draw 11 (by kernel_rfl) (by kernel_rfl) ⟨[0, 2, 3, 4, 5, 7, 10, 11], [true, true, true, false]⟩ ?_
    refine SXA.takeM 0 1 rfl (by kernel_rfl) rfl ?_
    refine SXL.fieldAddr fp_25_0 rfl ?_
    refine SXL.nil ⟨rfl, rfl, rfl, ?_⟩
    refine SXA.take 1 1 rfl (by kernel_rfl) rfl ?_
    refine SXL.load1o 2 sh_22 rfl rfl rfl ?_
    refine SXL.nil ⟨rfl, rfl, rfl, ?_⟩
    refine SXA.takeM 2 4 rfl (by kernel_rfl) rfl ?_
    refine SXL.fieldAddr fp_70_0 rfl ?_
    refine SXL.load1o 3 sh_3 rfl rfl rfl ?_
    refine SXL.fieldAddr fp_70_1 rfl ?_
    refine SXL.loadNo 3 sh_68 rfl rfl rfl ?_
    refine SXL.nil ⟨rfl, rfl, rfl, ?_⟩
    refine SXA.all [6] (by kernel_rfl) rfl ⟨⟨?_, rfl⟩, trivial⟩
    refine (show SXL _ _ [_] _ _ from ?_)
    refine SXL.callF (SpR (u.founts.getD k default).sp) fn_38 rfl (fun w hI => twin_any (u.founts.getD k default).sp (fa k).bo (fa k).ro (fa k).bc (fa k).rc (by omega) (by omega) w ((hs.springs k (by omega)).inv hI)) ?_; rintro _ _ ⟨r1, r2, o1, o2, rfl, rfl⟩
    refine SXL.nil (stepQ.mk _ rfl rfl ?_)
    refine SXA.takeM 7 1 rfl (by kernel_rfl) rfl ?_
    refine SXL.buildS pl_70 zp_70 rfl rfl ?_
    refine SXL.nil ⟨rfl, rfl, rfl, ?_⟩
    refine SXA.all [8] (by kernel_rfl) rfl ⟨⟨?_, rfl⟩, trivial⟩
    refine (show SXL _ _ [_] _ _ from ?_)
    refine SXL.buildSlice et_22 zp_70 rfl rfl rfl rfl ?_; intro b5
    refine SXL.nil (stepQ.mk _ rfl rfl ?_)
    refine SXA.all [9] (by kernel_rfl) rfl ⟨⟨?_, rfl⟩, trivial⟩
    refine (show SXL _ _ [_] _ _ from ?_)
    refine SXL.append 3 ap_22 rfl rfl ho rfl srcLast rfl rfl ⟨by simp only [maxLen]; omega, by omega⟩ ?_; intro r_24 o_24
    refine SXL.nil (stepQ.mkL0 (by kernel_rfl) rfl rfl ?_)
    refine SXA.takeM 10 1 rfl (by kernel_rfl) rfl ?_
    refine SXL.fieldAddr fp_25_0 rfl ?_
    refine SXL.nil ⟨rfl, rfl, rfl, ?_⟩
    refine SXA.done (by kernel_rfl) ?_
    refine SXL.store 2 sz_22 rfl rfl rfl rfl rfl rfl ?_
    refine SXL.nil ?_
    refine blockQ.normal ?_
    refine thenQ.normal ?_
    refine SX.region ?_
    refine SXL.add rfl rfl (by omega) ?_
    refine SXL.move rfl ?_
    refine SXL.nil ?_
    refine thenQ.normal ?_
    refine ⟨(k + 1, _, _, _, T ++ [r1.ent 129 (bookC (u.founts.getD k default).sp), r2.ent 131 (readsC (u.founts.getD k default).sp)], upd ga k ⟨r1.addr, r2.addr, r1.cap, r2.cap⟩), ⟨⟨rfl, trivial⟩, ⟨rfl, rfl, rfl, rfl, rfl, trivial⟩, Sel.keepM (A := [_, _, _, _]) (M := [_]) (N := [_]) rfl, rfl⟩, ⟨by omega, o_24, rfl, (foRowsN_succ u ga k ⟨r1.addr, r2.addr, r1.cap, r2.cap⟩).symm, hT.add o1 o2⟩, (show u.founts.length - (k + 1) < u.founts.length - k by omega)⟩
  · refine SX.exit ?_
    refine thenQ.exit ?_
    refine thenQ.exit ?_
    refine blockQ.exit ?_
    refine thenQ.normal ?_
    refine SX.seq ?_
    refine SX.seq ?_
    obtain rfl : k = u.founts.length := by omega
    refine SX.pad (Sl.nil.ent 73 []) rfl ?_
    refine SX.insN 4 ?_
    refine SX.region ?_
    refine SXL.fieldAddr fp_25_1 rfl ?_
    refine SXL.load1o 0 sh_23 rfl rfl rfl ?_
    refine SXL.len is_23 rfl ?_
    refine SXL.move rfl ?_
    refine SXL.nil ?_
    refine thenQ.normal ?_
    refine SX.block ?_
    refine SX.loopW (α := Nat × Sl × Nat × List Value × X.Own × (Nat → DA)) [2, 3, 28, 29] rfl (fun ⟨k, q2, n2, c2, T2, ta⟩ => [(30, .int .i64 ((k : Int)))]) (fun ⟨k, q2, n2, c2, T2, ta⟩ => [(b0, .cells ⟨[.slice fo u.founts.length fc, .slice so u.streets.length sc]⟩ 25 (0, 0)), (b1, .cells ⟨[.slice none 0 0, .slice none 0 0]⟩ 25 (0, 0)), (b2, .cells ⟨[q.val u.founts.length, q2.val n2]⟩ 25 (0, 0)), q.ent 70 (foRowsN u ga u.founts.length).flatten, q2.ent 73 c2]) (fun ⟨k, q2, n2, c2, T2, ta⟩ => T2) (fun ⟨k, q2, n2, c2, T2, ta⟩ => k ≤ u.streets.length ∧ q2.Ok n2 5 c2 ∧ k = n2 ∧ c2 = (srRowsN u ta k).flatten ∧ CapD u ta k ∧ DrHas T2 u ta k ∧ SpHas T2 u ga u.founts.length) (fun ⟨k, q2, n2, c2, T2, ta⟩ => u.streets.length - k) (0, Sl.nil, 0, [], T, fun _ => (none, 0)) ⟨Nat.zero_le _, .none _, rfl, rfl, fun i hi => absurd hi (Nat.not_lt_zero _), fun i hi => absurd hi (Nat.not_lt_zero _), hT⟩ ⟨rfl, trivial⟩ rfl ?_
    rintro ⟨k, q2, n2, c2, T2, ta⟩ ⟨hk2, ho2, rfl, rfl, hC, hT2, hT1⟩
    refine SX.seq ?_
    refine SX.region ?_
    refine SXL.lss rfl rfl ?_
    refine SXL.nil ?_
    refine thenQ.normal ?_
    refine SX.seq ?_
    refine SX.condP rfl (fun c31 => ?_) (fun c31 => ?_)
    · refine SX.skip ?_
      refine thenQ.normal ?_
      refine SX.seq ?_
      refine SX.block ?_
      refine SX.seq ?_
      obtain ⟨b, o, ha, hm⟩ := hs.street (i := k) (by omega)
      have hLk := hL2 k (by omega)
      refine SX.region ?_
      refine SXL.indexR el_23 rfl rfl ha (by omega) ?_
      refine SXL.loadN sh_73 rfl (hm _) rfl ?_
      refine SXL.alloc zp_73 ?_; intro b5
      refine SXL.insN 5 ?_
      refine SXL.store 5 sz_73 rfl rfl rfl rfl rfl rfl ?_
      refine SXL.nil ?_
      refine thenQ.normal ?_
      refine SX.seq ?_
      refine SX.region ?_
      refine SXL.buildSlice0 et_33 ?_; intro b6
      refine SXL.insN 6 ?_
      refine SXL.fieldAddr fp_73_3 rfl ?_
      refine SXL.load1o 5 sh_33 rfl rfl rfl ?_
      refine SXL.appendE (some b6) ap_33 rfl rfl (onesSrc ((hs.draws k (by omega))) _) (by simp) (ints_isOne _) ⟨by simp only [maxLen]; omega, by omega⟩ ?_; intro r_37 o_37
      refine SXL.insN 7 ?_
      refine SXL.fieldAddr fp_73_3 rfl ?_
      refine SXL.store 5 sz_33 rfl rfl rfl rfl rfl rfl ?_
      refine SXL.nil ?_
      refine thenQ.normal ?_
      refine SX.region ?_
      refine SXL.fieldAddr fp_25_1 rfl ?_
      refine SXL.load1o 2 sh_23 rfl rfl rfl ?_
      refine SXL.loadNo 5 sh_73 rfl rfl rfl ?_
      refine SXL.buildSlice et_23 zp_73 rfl rfl rfl rfl ?_; intro b8
      refine SXL.insN 8 ?_
      refine SXL.append 4 ap_23 rfl rfl ho2 rfl (.inr ⟨_, _, rfl, Mem.own (i := 8) rfl (takeAt_all _)⟩) rfl rfl ⟨by simp only [maxLen]; omega, by omega⟩ ?_; intro r_43 o_43
      refine SXL.fieldAddr fp_25_1 rfl ?_
      refine SXL.store 2 sz_23 rfl rfl rfl rfl rfl rfl ?_
      refine SXL.nil ?_
      refine blockQ.normal ?_
      refine thenQ.normal ?_
      refine SX.region ?_
      refine SXL.add rfl rfl (by omega) ?_
      refine SXL.move rfl ?_
      refine SXL.nil ?_
      refine thenQ.normal ?_
      refine ⟨(k + 1, _, _, _, [r_37.ent 3 (ints (u.streets.getD k default).draws)] ++ T2, upd ta k (r_37.addr, r_37.cap)), ⟨⟨rfl, trivial⟩, ⟨rfl, rfl, rfl, rfl, trivial⟩, Sel.keepM2 (A := [_, _, _, _, _]) (M := [_, _]) (B := [_]) (N := [_]) rfl, rfl⟩, ⟨by omega, o_43, rfl, (srRowsN_succ u ta k (r_37.addr, r_37.cap)).symm, hC.add o_37, hT2.add o_37, hT1.of (Sel.sub (List.sublist_append_right _ T2))⟩, (show u.streets.length - (k + 1) < u.streets.length - k by omega)⟩
    · refine SX.exit ?_
      refine thenQ.exit ?_
      refine thenQ.exit ?_
      refine blockQ.exit ?_
      refine thenQ.normal ?_
      refine SX.seq ?_
      obtain rfl : k = u.streets.length := by omega
      refine SX.region ?_
      refine SXL.loadNo 2 sh_25 rfl rfl rfl ?_
      refine SXL.store 1 sz_25 rfl rfl rfl rfl rfl rfl ?_
      refine SXL.nil ?_
      refine thenQ.normal ?_
      refine SX.ret ?_
      refine retQ.selS (Sel.keepV 5 [3, 4] rfl rfl) ?_
      refine retQ.one (ResAt.cellNo 1 sh_25 rfl rfl rfl) ?_
      exact ⟨q, q2, ga, ta, T2, ho, ho2, hT1, hT2, hC, rfl, rfl⟩
end Go.Proofs.YtolcicaclflagaaDoor
