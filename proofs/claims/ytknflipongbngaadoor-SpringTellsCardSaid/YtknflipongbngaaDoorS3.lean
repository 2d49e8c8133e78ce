/- The walks of functions. -/
import Derived.Test.YtknflipongbngaaDoorFacts
import Derived.Test.YtknflipongbngaaDoorS2
import Derived.Test.YtknflipongbngaaDoorD5
namespace Go.Proofs.YtknflipongbngaaDoor
open Go.X Go.S Go.RowKit
theorem indexSpans (M : List Int) (n : Nat) (a b : Int) (ao : Option Addr) (c : Nat) (hn : n ≤ 1000) (w : World) (h : RowsAt w ao 2 (pairs M n)) :
    CallsR Tryd.prog 134 [.slice ao n c, .agg ⟨[.int .i64 a, .int .i64 b]⟩] w (fun v _ => v = .int .i64 (idxF (fun k => [a, b] = [Lo M k, Hi M k]) n)) := by
  refine CallsR.of_SX (n := 19) (rs := [.tmp 4]) Tryd.func134 rfl rfl rfl rfl ?_
  show SX _ _ _ ⟨[(0, .slice ao n c), (1, .agg ⟨[.int .i64 a, .int .i64 b]⟩)], [], []⟩
  refine SX.seq ?_
  refine SX.region ?_
  refine SXL.box rfl rfl ?_; intro b0
  refine SXL.assign rfl ?_
  refine SXL.nil ?_
  refine thenQ.normal ?_
  refine SX.seq ?_
  refine SX.seq ?_
  refine SX.region ?_
  refine SXL.move rfl ?_
  refine SXL.len is_179 rfl ?_
  refine SXL.move rfl ?_
  refine SXL.nil ?_
  refine thenQ.normal ?_
  refine SX.block ?_
  refine SX.loopG (α := Nat) [0, 3, 4, 7] rfl (fun k => [(8, .int .i64 ((k : Int)))]) (fun k => []) (fun k => k ≤ n ∧ ∀ i, i < k → ¬[a, b] = [Lo M i, Hi M i]) (fun k => n - k) 0 ⟨Nat.zero_le _, fun _ h => absurd h (Nat.not_lt_zero _)⟩ ⟨rfl, trivial⟩ rfl ?_
  rintro k ⟨hk, hall⟩
  refine SX.seq ?_
  refine SX.region ?_
  refine SXL.lss rfl rfl ?_
  refine SXL.nil ?_
  refine thenQ.normal ?_
  refine SX.seq ?_
  refine SX.condP rfl (fun c9 => ?_) (fun c9 => ?_)
  · refine SX.skip ?_
    refine thenQ.normal ?_
    refine SX.seq ?_
    refine SX.block ?_
    refine SX.seq ?_
    refine SX.region ?_
    refine SXL.move rfl ?_
    refine SXL.assign rfl ?_
    refine SXL.nil ?_
    refine thenQ.normal ?_
    refine SX.seq ?_
    obtain ⟨b2, o, ha, hm⟩ := pairAt h (i := k) (by omega)
    refine SX.draw 6 (by kernel_rfl) (by kernel_rfl) {} ?_
    refine SXA.take 0 6 rfl (by kernel_rfl) rfl ?_
    refine SXL.loadNo 0 sh_23 rfl rfl rfl ?_
    refine SXL.move rfl ?_
    refine SXL.move rfl ?_
    refine SXL.indexR el_179 rfl rfl ha (by omega) ?_
    refine SXL.loadN sh_23 rfl (hm _) rfl ?_
    refine SXL.eqlV (p := [a, b] = [Lo M k, Hi M k]) (u := .agg ⟨ints ([a, b])⟩) (v := .agg ⟨ints ([Lo M k, Hi M k])⟩) rfl rfl (run_eql_ints eq_23 eg_23 sh_23 rfl rfl) ?_
    refine SXL.nil ⟨rfl, rfl, rfl, ?_⟩
    refine SXA.done (by kernel_rfl) ?_
    refine SXL.nil ?_
    refine thenQ.normal ?_
    refine SX.condP rfl (fun c16 => ?_) (fun c16 => ?_)
    · refine SX.seq ?_
      refine SX.region ?_
      refine SXL.move rfl ?_
      refine SXL.assign rfl ?_
      refine SXL.nil ?_
      refine thenQ.normal ?_
      refine SX.ret ?_
      refine blockQ.ret ?_
      refine thenQ.ret ?_
      refine thenQ.ret ?_
      refine blockQ.ret ?_
      refine thenQ.ret ?_
      refine retQ.one (ResAt.tmp rfl) ?_
      exact congrArg (Value.int .i64) (idxF_some (p := fun k => [a, b] = [Lo M k, Hi M k]) (by omega) c16 hall).symm
    · refine SX.skip ?_
      refine blockQ.normal ?_
      refine thenQ.normal ?_
      refine SX.region ?_
      refine SXL.add rfl rfl (by omega) ?_
      refine SXL.move rfl ?_
      refine SXL.nil ?_
      refine thenQ.normal ?_
      refine ⟨k + 1, Meets.mk _ ⟨rfl, trivial⟩ ⟨rfl, rfl, rfl, rfl, trivial⟩ rfl, ?_, (by omega)⟩
      refine ⟨by omega, fun i hi => ?_⟩
      by_cases e : i = k
      · subst e; exact c16
      · exact hall i (by omega)
  · refine SX.exit ?_
    refine thenQ.exit ?_
    refine thenQ.exit ?_
    refine blockQ.exit ?_
    refine thenQ.normal ?_
    refine SX.seq ?_
    refine SX.region ?_
    refine SXL.assign rfl ?_
    refine SXL.nil ?_
    refine thenQ.normal ?_
    refine SX.ret ?_
    refine retQ.one (ResAt.tmp rfl) ?_
    exact congrArg (Value.int .i64) (idxF_none (p := fun k => [a, b] = [Lo M k, Hi M k]) fun i hi => hall i (by omega)).symm
theorem containsSpans (M : List Int) (n : Nat) (a b : Int) (ao : Option Addr) (c : Nat) (hn : n ≤ 1000) (w : World) (h : RowsAt w ao 2 (pairs M n)) :
    CallsR Tryd.prog 130 [.slice ao n c, .agg ⟨[.int .i64 a, .int .i64 b]⟩] w (fun v _ => v = .bool (decide (0 ≤ idxF (fun k => [a, b] = [Lo M k, Hi M k]) n))) := by
  refine CallsR.of_SX (n := 9) (rs := [.tmp 4]) Tryd.func130 rfl rfl rfl rfl ?_
  show SX _ _ _ ⟨[(0, .slice ao n c), (1, .agg ⟨[.int .i64 a, .int .i64 b]⟩)], [], []⟩
  refine SX.seq ?_
  refine SX.region ?_
  refine SXL.box rfl rfl ?_; intro b0
  refine SXL.assign rfl ?_
  refine SXL.nil ?_
  refine thenQ.normal ?_
  refine SX.seq ?_
  refine SX.region ?_
  refine SXL.move rfl ?_
  refine SXL.loadNo 0 sh_23 rfl rfl rfl ?_
  refine SXL.call1 (.int .i64 (idxF (fun k => [a, b] = [Lo M k, Hi M k]) n)) fn_134 rfl (fun w hI => indexSpans M n a b ao c hn _ (h.inv hI)) ?_
  refine SXL.geq rfl rfl ?_
  refine SXL.assign rfl ?_
  refine SXL.nil ?_
  refine thenQ.normal ?_
  refine SX.ret ?_
  refine retQ.one (ResAt.tmp rfl) ?_
  first | rfl | assumption
set_option maxHeartbeats 2000000 in
theorem after_any (s : Sp) (bo ro : Option Addr) (bc rc : Nat) (R : List Int) (L : List Int) (hv : SpP s) (hW : RelW s R L) (rain : Int) (w : World) (hg : Gl w) (hs : SpAt w s bo ro) :
    CallsR Tryd.prog 118 [.agg ⟨watC s bo ro bc rc R⟩, .int .i64 rain] w (fun v _ => AfterR s L rain v) := by
  have hH := hv.1
  unfold HeadP at hH
  have hR := hW.lr
  refine CallsR.of_SX (n := 120) (rs := [.cell 4 114, .tmp 5]) Tryd.func118 rfl rfl rfl rfl ?_
  show SX _ _ _ ⟨[(0, .agg ⟨watC s bo ro bc rc R⟩), (1, .int .i64 rain)], [], []⟩
  refine SX.seq ?_
  refine SX.region ?_
  refine SXL.box rfl rfl ?_; intro b0
  refine SXL.alloc zp_114 ?_; intro b1
  refine SXL.assign rfl ?_
  refine SXL.nil ?_
  refine thenQ.normal ?_
  refine SX.seq ?_
  refine SX.region ?_
  refine SXL.fieldAddr fp_117_1 rfl ?_
  refine SXL.loadNo 0 sh_114 rfl rfl (takeApp 9 rfl (takeAt_full (k := 20) (by simp [hR])) rfl) ?_
  refine SXL.alloc zp_114 ?_; intro b2
  refine SXL.store 2 sz_114 rfl rfl rfl rfl (by simp [hR]) (putAt_all _ _ (by simp [hR])) ?_ (ints_isOne _)
  refine SXL.nil ?_
  refine thenQ.normal ?_
  refine SX.seq ?_
  refine SX.seq ?_
  refine SX.region ?_
  refine SXL.fieldAddr fp_117_0 rfl ?_
  refine SXL.fieldAddr fp_27_5 rfl ?_
  refine SXL.load1o 0 sh_24 rfl rfl rfl ?_
  refine SXL.len is_24 rfl ?_
  refine SXL.move rfl ?_
  refine SXL.nil ?_
  refine thenQ.normal ?_
  refine SX.block ?_
  refine SX.loopG (α := Nat) [1, 2, 4, 5, 6, 17, 18] rfl (fun k => [(19, .int .i64 ((k : Int)))]) (fun k => [(2, (b2, .cells ⟨ints (slTo s R rain k)⟩ 114 (0, 0)))]) (fun k => k ≤ s.book.length) (fun k => s.book.length - k) 0 (Nat.zero_le _) ⟨rfl, trivial⟩ rfl ?_
  rintro k hk
  have hl := slTo_len s R rain k
  have hSk := slTo_sb hv hR hW.sb rain k hk
  refine SX.seq ?_
  refine SX.region ?_
  refine SXL.lss rfl rfl ?_
  refine SXL.nil ?_
  refine thenQ.normal ?_
  refine SX.seq ?_
  refine SX.condP rfl (fun c20 => ?_) (fun c20 => ?_)
  · refine SX.skip ?_
    refine thenQ.normal ?_
    refine SX.seq ?_
    refine SX.block ?_
    refine SX.seq ?_
    obtain ⟨b, o, ha, hm⟩ := hs.lineD (i := k) (by omega)
    have hln := bookD hv.2.1 (k := k) (by omega)
    refine SX.region ?_
    refine SXL.indexR el_24 rfl rfl ha (by omega) ?_
    refine SXL.loadN sh_61 rfl (hm _) rfl ?_
    refine SXL.alloc zp_61 ?_; intro b3
    refine SXL.store 3 sz_61 rfl rfl rfl rfl rfl rfl ?_
    refine SXL.nil ?_
    refine thenQ.normal ?_
    refine SX.seq ?_
    refine SX.region ?_
    refine SXL.fieldAddr fp_61_0 rfl ?_
    refine SXL.fieldAddr fp_23_0 rfl ?_
    refine SXL.load1o 3 sh_3 rfl rfl rfl ?_
    refine SXL.fieldAddr fp_61_0 rfl ?_
    refine SXL.fieldAddr fp_23_1 rfl ?_
    refine SXL.load1o 3 sh_3 rfl rfl rfl ?_
    refine SXL.move rfl ?_
    refine SXL.buildSlice et_35 zp_3 rfl rfl rfl rfl ?_; intro b4
    refine SXL.call1 (.bool (decide (Wi (rain) ((s.book.getD k default).r0) ((s.book.getD k default).r1)))) fn_78 rfl (fun w hI => in1_own hI 4 (rain) ((s.book.getD k default).r0) ((s.book.getD k default).r1) rfl) ?_
    refine SXL.nil ?_
    refine thenQ.normal ?_
    refine SX.condP rfl (fun c31 => ?_) (fun c31 => ?_)
    · refine SX.draw 10 (by kernel_rfl) (by kernel_rfl) {} ?_
      refine SXA.take 0 10 rfl (by kernel_rfl) rfl ?_
      refine SXL.fieldAddr fp_61_1 rfl ?_
      refine SXL.load1o 3 sh_3 rfl rfl rfl ?_
      refine SXL.fieldAddr fp_61_1 rfl ?_
      refine SXL.load1o 3 sh_3 rfl rfl rfl ?_
      refine SXL.indexA el_114 rfl rfl (by omega) ?_
      refine SXL.loadNo 2 sh_23 rfl rfl (ints_take2' (M := (slTo s R rain k)) (i := (s.book.getD k default).wk.toNat) (by omega) (by omega)) ?_
      refine SXL.fieldAddr fp_61_2 rfl ?_
      refine SXL.loadNo 3 sh_23 rfl rfl rfl ?_
      refine SXL.call1 (spanV (bothP (Lo (slTo s R rain k) (s.book.getD k default).wk.toNat) (Hi (slTo s R rain k) (s.book.getD k default).wk.toNat) ((s.book.getD k default).g0) ((s.book.getD k default).g1))) fn_116 rfl (fun w hI => both_any _ _ _ _ _ (hg.inv hI)) ?_
      refine SXL.indexA el_114 rfl rfl (by omega) ?_
      refine SXL.nil ⟨rfl, rfl, rfl, ?_⟩
      refine SXA.done (by kernel_rfl) ?_
      refine SXL.store 2 sz_23 rfl rfl rfl rfl rfl (ints_put2' (M := (slTo s R rain k)) (i := (s.book.getD k default).wk.toNat) (p := bothP (Lo (slTo s R rain k) (s.book.getD k default).wk.toNat) (Hi (slTo s R rain k) (s.book.getD k default).wk.toNat) (s.book.getD k default).g0 (s.book.getD k default).g1) (by omega) (by omega)) ?_
      refine SXL.nil ?_
      refine blockQ.normal ?_
      refine thenQ.normal ?_
      refine SX.region ?_
      refine SXL.add rfl rfl (by omega) ?_
      refine SXL.move rfl ?_
      refine SXL.nil ?_
      refine thenQ.normal ?_
      refine ⟨k + 1, Meets.mk _ ⟨rfl, trivial⟩ ⟨rfl, rfl, rfl, rfl, rfl, rfl, rfl, trivial⟩ (by first | (rw [show slTo s R rain (k + 1) = _ from if_pos c31]; rfl) | (rw [show slTo s R rain (k + 1) = _ from if_neg c31]; rfl)), (by omega), (by omega)⟩
    · refine SX.skip ?_
      refine blockQ.normal ?_
      refine thenQ.normal ?_
      refine SX.region ?_
      refine SXL.add rfl rfl (by omega) ?_
      refine SXL.move rfl ?_
      refine SXL.nil ?_
      refine thenQ.normal ?_
      refine ⟨k + 1, Meets.mk _ ⟨rfl, trivial⟩ ⟨rfl, rfl, rfl, rfl, rfl, rfl, rfl, trivial⟩ (by first | (rw [show slTo s R rain (k + 1) = _ from if_pos c31]; rfl) | (rw [show slTo s R rain (k + 1) = _ from if_neg c31]; rfl)), (by omega), (by omega)⟩
  · refine SX.exit ?_
    refine thenQ.exit ?_
    refine thenQ.exit ?_
    refine blockQ.exit ?_
    refine thenQ.normal ?_
    refine SX.seq ?_
    refine SX.seq ?_
    obtain rfl : k = s.book.length := by omega
    refine SX.region ?_
    refine SXL.buildA ae_114 zp_114 rfl rfl ?_
    refine SXL.alloc zp_114 ?_; intro b3
    refine SXL.store 3 sz_114 rfl rfl rfl rfl rfl rfl ?_
    refine SXL.nil ?_
    refine thenQ.normal ?_
    refine SX.block ?_
    refine SX.loopG (α := Nat × List Int × List Int) [2, 4, 5, 6] rfl (fun ⟨bw, M, W⟩ => [(9, .pointer (some ⟨bw, 0, none⟩))]) (fun ⟨bw, M, W⟩ => [(2, (b2, .cells ⟨ints M⟩ 114 (0, 0))), (3, (bw, .cells ⟨ints W⟩ 114 (0, 0)))]) (fun ⟨bw, M, W⟩ => KeepP s.weeks.toNat s.fall (slTo s R rain s.book.length) M ∧ W.length = 20 ∧ ((∀ j, j < 10 → Lo W j = 0 ∧ Hi W j = 0) ∨ (Sb W ∧ M = psTo s.fall W (s.weeks.toNat - 1) ∧ Alive s.fall W (s.weeks.toNat - 1)))) (fun ⟨bw, M, W⟩ => (2 * (sumW M 10).toNat + if W = M then 0 else 1)) (b3, (slTo s R rain s.book.length), List.replicate 20 0) ⟨keep_start (by simp [hR]) (slTo_sb hv hR hW.sb rain _ (Nat.le_refl _)), by simp, .inl (by decide)⟩ ⟨rfl, trivial⟩ rfl ?_
    rintro ⟨bw, M, W⟩ ⟨hM, hWl, hWM⟩
    have hMl := hM.len
    refine SX.seq ?_
    refine SX.seq ?_
    refine SX.region ?_
    refine SXL.loadNo 3 sh_114 rfl rfl (takeAt_full (by simp [hWl])) ?_
    refine SXL.loadNo 2 sh_114 rfl rfl (takeAt_full (by simp [hMl])) ?_
    refine SXL.neqV (p := W ≠ M) (u := .agg ⟨ints (W)⟩) (v := .agg ⟨ints (M)⟩) rfl rfl (run_neq_ints eq_114 eg_114 sh_114 hWl hMl) ?_
    refine SXL.nil ?_
    refine thenQ.normal ?_
    refine SX.condP rfl (fun c46 => ?_) (fun c46 => ?_)
    · refine SX.skip ?_
      refine thenQ.normal ?_
      refine SX.seq ?_
      refine SX.block ?_
      refine SX.seq ?_
      refine SX.region ?_
      refine SXL.loadNo 2 sh_114 rfl rfl (takeAt_full (by simp [hMl])) ?_
      refine SXL.store 3 sz_114 rfl rfl rfl rfl (by simp [hMl]) (putAt_all _ _ (by simp [hMl, hWl])) ?_ (ints_isOne _)
      refine SXL.nil ?_
      refine thenQ.normal ?_
      refine SX.seq ?_
      refine SX.region ?_
      refine SXL.assign rfl ?_
      refine SXL.nil ?_
      refine thenQ.normal ?_
      refine SX.block ?_
      refine SX.loopG (α := Nat) [2, 4, 5, 6, 9] rfl (fun k => [(10, .int .i64 (((k : Int) + 1)))]) (fun k => [(2, (b2, .cells ⟨ints (psTo s.fall M k)⟩ 114 (0, 0)))]) (fun k => k ≤ s.weeks.toNat - 1 ∧ Alive s.fall M k) (fun k => s.weeks.toNat - 1 - k) 0 ⟨Nat.zero_le _, fun _ h => absurd h (Nat.not_lt_zero _)⟩ ⟨rfl, trivial⟩ rfl ?_
      rintro k ⟨hk, hal⟩
      have hKl : (psTo s.fall M k).length = 20 := by simp [hMl]
      refine SX.seq ?_
      refine SX.seq ?_
      refine SX.region ?_
      refine SXL.move rfl ?_
      refine SXL.fieldAddr fp_117_0 rfl ?_
      refine SXL.fieldAddr fp_27_0 rfl ?_
      refine SXL.load1o 0 sh_3 rfl rfl rfl ?_
      refine SXL.lss rfl rfl ?_
      refine SXL.nil ?_
      refine thenQ.normal ?_
      refine SX.condP rfl (fun c52 => ?_) (fun c52 => ?_)
      · refine SX.skip ?_
        refine thenQ.normal ?_
        refine SX.seq ?_
        refine SX.block ?_
        refine SX.seq ?_
        have hS := (ps_less (f := s.fall) hMl hM.sb k (by omega)).1
        have q0 := hS k (by omega)
        have q1 := hS (k + 1) (by omega)
        refine SX.draw 7 (by kernel_rfl) (by kernel_rfl) {} ?_
        refine SXA.take 0 7 rfl (by kernel_rfl) rfl ?_
        refine SXL.move rfl ?_
        refine SXL.sub rfl rfl (by omega) ?_
        refine SXL.indexA el_114 rfl rfl (by omega) ?_
        refine SXL.move rfl ?_
        refine SXL.indexA el_114 rfl rfl (by omega) ?_
        refine SXL.assign rfl ?_
        refine SXL.assign rfl ?_
        refine SXL.nil ⟨rfl, rfl, rfl, ?_⟩
        refine SXA.done (by kernel_rfl) ?_
        refine SXL.nil ?_
        refine thenQ.normal ?_
        refine SX.seq ?_
        refine SX.draw 19 (by kernel_rfl) (by kernel_rfl) {} ?_
        refine SXA.take 0 19 rfl (by kernel_rfl) rfl ?_
        refine SXL.move rfl ?_
        refine SXL.move rfl ?_
        refine SXL.nilCheck rfl ?_
        refine SXL.loadNo 2 sh_23 rfl rfl (ints_take2' (M := (psTo s.fall M k)) (i := k + 1) (by omega) (by omega)) ?_
        refine SXL.move rfl ?_
        refine SXL.nilCheck rfl ?_
        refine SXL.fieldAddr fp_23_0 rfl ?_
        refine SXL.load1o 2 sh_3 rfl rfl (at_lo (M := (psTo s.fall M k)) (i := k) (by omega) (by omega)) ?_
        refine SXL.fieldAddr fp_117_0 rfl ?_
        refine SXL.fieldAddr fp_27_2 rfl ?_
        refine SXL.load1o 0 sh_3 rfl rfl rfl ?_
        refine SXL.sub rfl rfl (by omega) ?_
        refine SXL.move rfl ?_
        refine SXL.nilCheck rfl ?_
        refine SXL.fieldAddr fp_23_1 rfl ?_
        refine SXL.load1o 2 sh_3 rfl rfl (at_hi (M := (psTo s.fall M k)) (i := k) (by omega) (by omega)) ?_
        refine SXL.buildS pl_23 zp_23 rfl rfl ?_
        refine SXL.call1 (spanV (bothP (Lo (psTo s.fall M k) (k + 1)) (Hi (psTo s.fall M k) (k + 1)) (Lo (psTo s.fall M k) k - s.fall) (Hi (psTo s.fall M k) k))) fn_116 rfl (fun w hI => both_any _ _ _ _ _ (hg.inv hI)) ?_
        refine SXL.nilCheck rfl ?_
        refine SXL.nil ⟨rfl, rfl, rfl, ?_⟩
        refine SXA.done (by kernel_rfl) ?_
        refine SXL.store 2 sz_23 rfl rfl rfl rfl rfl (ints_put2' (M := (psTo s.fall M k)) (i := k + 1) (p := (bothP (Lo (psTo s.fall M k) (k + 1)) (Hi (psTo s.fall M k) (k + 1)) (Lo (psTo s.fall M k) k - s.fall) (Hi (psTo s.fall M k) k))) (by omega) (by omega)) ?_
        refine SXL.nil ?_
        refine thenQ.normal ?_
        refine SX.seq ?_
        have hS1 := (step_less (f := s.fall) hKl hS (k := k) (by omega)).1
        have hl1 : (step1 s.fall (psTo s.fall M k) k).length = 20 := by simp [hMl]
        have u0 := hS1 k (by omega)
        have u1 := hS1 (k + 1) (by omega)
        refine SX.draw 19 (by kernel_rfl) (by kernel_rfl) {} ?_
        refine SXA.take 0 19 rfl (by kernel_rfl) rfl ?_
        refine SXL.move rfl ?_
        refine SXL.move rfl ?_
        refine SXL.nilCheck rfl ?_
        refine SXL.loadNo 2 sh_23 rfl rfl (ints_take2' (M := (step1 s.fall (psTo s.fall M k) k)) (i := k) (by omega) (by omega)) ?_
        refine SXL.move rfl ?_
        refine SXL.nilCheck rfl ?_
        refine SXL.fieldAddr fp_23_0 rfl ?_
        refine SXL.load1o 2 sh_3 rfl rfl (at_lo (M := (step1 s.fall (psTo s.fall M k) k)) (i := k + 1) (by omega) (by omega)) ?_
        refine SXL.move rfl ?_
        refine SXL.nilCheck rfl ?_
        refine SXL.fieldAddr fp_23_1 rfl ?_
        refine SXL.load1o 2 sh_3 rfl rfl (at_hi (M := (step1 s.fall (psTo s.fall M k) k)) (i := k + 1) (by omega) (by omega)) ?_
        refine SXL.fieldAddr fp_117_0 rfl ?_
        refine SXL.fieldAddr fp_27_2 rfl ?_
        refine SXL.load1o 0 sh_3 rfl rfl rfl ?_
        refine SXL.add rfl rfl (by omega) ?_
        refine SXL.buildS pl_23 zp_23 rfl rfl ?_
        refine SXL.call1 (spanV (bothP (Lo (step1 s.fall (psTo s.fall M k) k) k) (Hi (step1 s.fall (psTo s.fall M k) k) k) (Lo (step1 s.fall (psTo s.fall M k) k) (k + 1)) (Hi (step1 s.fall (psTo s.fall M k) k) (k + 1) + s.fall))) fn_116 rfl (fun w hI => both_any _ _ _ _ _ (hg.inv hI)) ?_
        refine SXL.nilCheck rfl ?_
        refine SXL.nil ⟨rfl, rfl, rfl, ?_⟩
        refine SXA.done (by kernel_rfl) ?_
        refine SXL.store 2 sz_23 rfl rfl rfl rfl rfl (ints_put2' (M := (step1 s.fall (psTo s.fall M k) k)) (i := k) (p := (bothP (Lo (step1 s.fall (psTo s.fall M k) k) k) (Hi (step1 s.fall (psTo s.fall M k) k) k) (Lo (step1 s.fall (psTo s.fall M k) k) (k + 1)) (Hi (step1 s.fall (psTo s.fall M k) k) (k + 1) + s.fall))) (by omega) (by omega)) ?_
        refine SXL.nil ?_
        refine thenQ.normal ?_
        refine SX.seq ?_
        have hl2 : (stepM s.fall (psTo s.fall M k) k).length = 20 := by simp [hMl]
        refine SX.draw 12 (by kernel_rfl) (by kernel_rfl) {} ?_
        refine SXA.take 0 12 rfl (by kernel_rfl) rfl ?_
        refine SXL.move rfl ?_
        refine SXL.nilCheck rfl ?_
        refine SXL.loadNo 2 sh_23 rfl rfl (ints_take2' (M := (stepM s.fall (psTo s.fall M k) k)) (i := k) (by omega) (by omega)) ?_
        refine SXL.loadN sh_23 rfl (hg.memN _) rfl ?_
        refine SXL.eqlV (p := [Lo (stepM s.fall (psTo s.fall M k) k) k, Hi (stepM s.fall (psTo s.fall M k) k) k] = [1, 0]) (u := .agg ⟨ints ([Lo (stepM s.fall (psTo s.fall M k) k) k, Hi (stepM s.fall (psTo s.fall M k) k) k])⟩) (v := .agg ⟨ints ([1, 0])⟩) rfl rfl (run_eql_ints eq_23 eg_23 sh_23 rfl rfl) ?_
        refine SXL.move rfl ?_
        apply SXL.orG 5
        case hl => exact rfl
        case hd => exact rfl
        case hg => exact rfl
        case ht =>
          intro c109
          refine SXL.pass rfl rfl rfl ?_
          refine SXL.pass rfl rfl rfl ?_
          refine SXL.pass rfl rfl rfl ?_
          refine SXL.pass rfl rfl rfl ?_
          refine SXL.pass rfl rfl rfl ?_
          exact SXL.nil (segQ.mk (.skip rfl (.skip rfl (.skip rfl (.skip rfl (.skip rfl (.skip rfl (EnvSub.refl _))))))) rfl rfl rfl)
        case hf =>
          intro c109
          refine SXL.move rfl ?_
          refine SXL.nilCheck rfl ?_
          refine SXL.loadNo 2 sh_23 rfl rfl (ints_take2' (M := (stepM s.fall (psTo s.fall M k) k)) (i := k + 1) (by omega) (by omega)) ?_
          refine SXL.loadN sh_23 rfl (hg.memN _) rfl ?_
          refine SXL.eqlV (p := [Lo (stepM s.fall (psTo s.fall M k) k) (k + 1), Hi (stepM s.fall (psTo s.fall M k) k) (k + 1)] = [1, 0]) (u := .agg ⟨ints ([Lo (stepM s.fall (psTo s.fall M k) k) (k + 1), Hi (stepM s.fall (psTo s.fall M k) k) (k + 1)])⟩) (v := .agg ⟨ints ([1, 0])⟩) rfl rfl (run_eql_ints eq_23 eg_23 sh_23 rfl rfl) ?_
          exact SXL.nil (segQ.mk (.skip rfl (.skip rfl (.skip rfl (.skip rfl (.skip rfl (.skip rfl (EnvSub.refl _))))))) rfl rfl ⟨rfl, rfl⟩)
        refine SXL.nil ⟨rfl, rfl, rfl, ?_⟩
        refine SXA.done (by kernel_rfl) ?_
        refine SXL.nil ?_
        refine thenQ.normal ?_
        refine SX.condP rfl (fun c109 => ?_) (fun c109 => ?_)
        · refine SX.seq ?_
          have hno : ¬lvB s L rain := by
            have hk2 := (hM.ps (by omega) (k + 1) (by omega))
            rcases c109 with c109 | c109
            · exact (after_ok hv hR hW.ll.len hW.sb hW.rel hW.rest rain).2 _ hk2 k (by omega) (span_none.1 c109.symm)
            · exact (after_ok hv hR hW.ll.len hW.sb hW.rel hW.rest rain).2 _ hk2 (k + 1) (by omega) (span_none.1 c109.symm)
          refine SX.region ?_
          refine SXL.loadNo 2 sh_114 rfl rfl (takeAt_full (by simp [hMl])) ?_
          refine SXL.store 1 sz_114 rfl rfl rfl rfl (by simp [hMl]) (putAt_all _ _ (by simp [hMl])) ?_ (ints_isOne _)
          refine SXL.assign rfl ?_
          refine SXL.nil ?_
          refine thenQ.normal ?_
          refine SX.ret ?_
          refine blockQ.ret ?_
          refine thenQ.ret ?_
          refine thenQ.ret ?_
          refine blockQ.ret ?_
          refine blockQ.ret ?_
          refine thenQ.ret ?_
          refine thenQ.ret ?_
          refine blockQ.ret ?_
          refine thenQ.ret ?_
          refine retQ.two (ResAt.cellNo 1 sh_114 rfl rfl (takeAt_full (k := 20) (by simp [hMl]))) (ResAt.tmp rfl) ?_
          exact ⟨_, hl2, fun h => absurd h hno, by rw [decide_eq_false hno]; rfl⟩
        · refine SX.skip ?_
          refine blockQ.normal ?_
          refine thenQ.normal ?_
          refine SX.region ?_
          refine SXL.move rfl ?_
          refine SXL.add rfl rfl (by omega) ?_
          refine SXL.assign rfl ?_
          refine SXL.nil ?_
          refine thenQ.normal ?_
          refine ⟨k + 1, Meets.mk _ ⟨rfl, trivial⟩ ⟨rfl, rfl, rfl, rfl, rfl, trivial⟩ rfl, ?_, (by omega)⟩
          refine ⟨by omega, fun j hj => ?_⟩
          by_cases e : j = k
          · subst e; exact ⟨fun h => c109 (.inl (span_none.2 h).symm), fun h => c109 (.inr (span_none.2 h).symm)⟩
          · exact hal j (by omega)
      · refine SX.exit ?_
        refine thenQ.exit ?_
        refine thenQ.exit ?_
        refine blockQ.exit ?_
        refine blockQ.normal ?_
        refine thenQ.normal ?_
        refine SX.seq ?_
        obtain rfl : k = s.weeks.toNat - 1 := by omega
        refine SX.region ?_
        refine SXL.loadNo 3 sh_114 rfl rfl (takeAt_full (by simp [hMl])) ?_
        refine SXL.nil ?_
        refine thenQ.normal ?_
        refine SX.region ?_
        refine SXL.alloc zp_114 ?_; intro b4
        refine SXL.store 4 sz_114 rfl rfl rfl rfl (by simp [hMl]) (putAt_all _ _ (by simp [hMl])) ?_ (ints_isOne _)
        refine SXL.nil ?_
        refine thenQ.normal ?_
        refine ⟨(_, _, _), Meets.mkS [0, 1, 2, 4] ⟨rfl, trivial⟩ ⟨rfl, rfl, rfl, rfl, trivial⟩ rfl, ⟨hM.ps (by omega) _ (by omega), hMl, .inr ⟨hM.sb, rfl, hal⟩⟩, (mu_less hMl hM.sb c46 _ (by omega))⟩
    · refine SX.exit ?_
      refine thenQ.exit ?_
      refine thenQ.exit ?_
      refine blockQ.exit ?_
      refine thenQ.normal ?_
      refine SX.seq ?_
      have c46 := Decidable.not_not.1 c46
      subst c46
      refine SX.draw 10 (by kernel_rfl) (by kernel_rfl) ⟨[1, 2, 3, 4, 5, 7, 9], [true, false]⟩ ?_
      refine SXA.take 0 1 rfl (by kernel_rfl) rfl ?_
      refine SXL.loadNo 2 sh_114 rfl rfl (takeAt_full (by simp [hMl])) ?_
      refine SXL.nil ⟨rfl, rfl, rfl, ?_⟩
      refine SXA.takeM 1 5 rfl (by kernel_rfl) rfl ?_
      refine SXL.fieldAddr fp_117_0 rfl ?_
      refine SXL.fieldAddr fp_27_0 rfl ?_
      refine SXL.load1o 0 sh_3 rfl rfl rfl ?_
      refine SXL.sliceAH el_114 rfl rfl (by omega) ?_
      refine SXL.loadN sh_23 rfl (hg.memN _) rfl ?_
      refine SXL.nil ⟨rfl, rfl, rfl, ?_⟩
      refine SXA.take 6 1 rfl (by kernel_rfl) rfl ?_
      refine SXL.call1 (.bool (decide (0 ≤ idxF (fun k => [1, 0] = [Lo W k, Hi W k]) s.weeks.toNat))) fn_130 rfl (fun w hI => containsSpans W s.weeks.toNat 1 0 _ _ (by omega) _ (ownPairs hI (i := 2) rfl (by omega))) ?_
      refine SXL.nil ⟨rfl, rfl, rfl, ?_⟩
      refine SXA.takeM 7 1 rfl (by kernel_rfl) rfl ?_
      refine SXL.not rfl ?_
      refine SXL.nil ⟨rfl, rfl, rfl, ?_⟩
      refine SXA.all [8] (by kernel_rfl) rfl ⟨⟨?_, rfl⟩, trivial⟩
      refine (show SXL _ _ [_] _ _ from ?_)
      refine SXL.store 1 sz_114 rfl rfl rfl rfl (by simp [hMl]) (putAt_all _ _ (by simp [hMl])) ?_ (ints_isOne _)
      refine SXL.nil (stepQ.mkL _ (by kernel_rfl) rfl rfl ?_)
      refine SXA.takeM 9 1 rfl (by kernel_rfl) rfl ?_
      refine SXL.assign rfl ?_
      refine SXL.nil ⟨rfl, rfl, rfl, ?_⟩
      refine SXA.done (by kernel_rfl) ?_
      refine SXL.nil ?_
      refine thenQ.normal ?_
      refine SX.ret ?_
      refine retQ.two (ResAt.cellNo 1 sh_114 rfl rfl (takeAt_full (k := 20) (by simp [hMl]))) (ResAt.tmp rfl) ?_
      obtain ⟨z1, z2⟩ := after_end hv hW hM hWM; exact ⟨_, hMl, z2, by rw [after_bool z1]⟩
end Go.Proofs.YtknflipongbngaaDoor
