/- Texts of the proof, merged: R5, W1, P13, W2, D8, W3, D10, W7, XB, P15, A1. -/
import Derived.Test.YtknflipongbngaaDoorMSpringWrong4
/- The walks of functions. -/
namespace Go.Proofs.YtknflipongbngaaDoor
open Go.X Go.S
theorem great_any (s : Sp) (bo ro : Option Addr) (bc rc : Nat) (w : World) :
    CallsR Tryd.prog 16 [.agg ⟨[.int .i64 s.weeks, .int .i64 s.most, .int .i64 s.fall, .int .i64 s.a0, .int .i64 s.a1, .int .i64 s.w0, .int .i64 s.w1, (.slice bo s.book.length bc), (.slice ro s.reads.length rc)]⟩] w (fun v _ => v = .bool (decide ((30 : Int) < (s.book.length : Int) ∨ (30 : Int) < (s.reads.length : Int)))) := by
  refine CallsR.of_SX (n := 13) (rs := [.tmp 2]) Tryd.func16 rfl rfl rfl rfl ?_
  show SX _ _ _ ⟨[(0, .agg ⟨[.int .i64 s.weeks, .int .i64 s.most, .int .i64 s.fall, .int .i64 s.a0, .int .i64 s.a1, .int .i64 s.w0, .int .i64 s.w1, (.slice bo s.book.length bc), (.slice ro s.reads.length rc)]⟩)], [], []⟩
  refine SX.seq ?_
  refine SX.region ?_
  refine SXL.box rfl rfl ?_; intro b0
  refine SXL.assign rfl ?_
  refine SXL.nil ?_
  refine thenQ.normal ?_
  refine SX.seq ?_
  refine SX.region ?_
  refine SXL.fieldAddr fp_27_5 rfl ?_
  refine SXL.load1o 0 sh_24 rfl rfl rfl ?_
  refine SXL.len is_24 rfl ?_
  refine SXL.gtr rfl rfl ?_
  refine SXL.move rfl ?_
  apply SXL.orG 4
  case hl => exact rfl
  case hd => exact rfl
  case hg => exact rfl
  case ht =>
    intro g1
    refine SXL.pass rfl rfl rfl ?_
    refine SXL.pass rfl rfl rfl ?_
    refine SXL.pass rfl rfl rfl ?_
    refine SXL.pass rfl rfl rfl ?_
    exact SXL.nil (segQ.mk (.skip rfl (.skip rfl (.skip rfl (.skip rfl (.skip rfl (EnvSub.refl _)))))) rfl rfl rfl)
  case hf =>
    intro g1
    refine SXL.fieldAddr fp_27_6 rfl ?_
    refine SXL.load1o 0 sh_25 rfl rfl rfl ?_
    refine SXL.len is_25 rfl ?_
    refine SXL.gtr rfl rfl ?_
    exact SXL.nil (segQ.mk (.skip rfl (.skip rfl (.skip rfl (.skip rfl (.skip rfl (EnvSub.refl _)))))) rfl rfl ⟨rfl, rfl⟩)
  refine SXL.assign rfl ?_
  refine SXL.nil ?_
  refine thenQ.normal ?_
  refine SX.ret ?_
  refine retQ.one (ResAt.tmp rfl) ?_
  first | rfl | assumption
theorem sameInts_any (l m : List Int) (lo mo : Option Addr) (lc mc : Nat) (hmx : l.length ≤ 1000000) (w : World) (h1 : RowsAt w lo 1 (ones l)) (h2 : RowsAt w mo 1 (ones m)) :
    CallsR Tryd.prog 28 [.slice lo l.length lc, .slice mo m.length mc] w (fun v _ => v = .bool (decide (l = m))) := by
  refine CallsR.of_SX (n := 26) (rs := [.tmp 4]) Tryd.func28 rfl rfl rfl rfl ?_
  show SX _ _ _ ⟨[(0, .slice lo l.length lc), (1, .slice mo m.length mc)], [], []⟩
  refine SX.seq ?_
  refine SX.region ?_
  refine SXL.assign rfl ?_
  refine SXL.nil ?_
  refine thenQ.normal ?_
  refine SX.seq ?_
  refine SX.seq ?_
  refine SX.region ?_
  refine SXL.move rfl ?_
  refine SXL.len is_35 rfl ?_
  refine SXL.move rfl ?_
  refine SXL.len is_35 rfl ?_
  refine SXL.neqI rfl rfl ?_
  refine SXL.nil ?_
  refine thenQ.normal ?_
  refine SX.condP rfl (fun c10 => ?_) (fun c10 => ?_)
  · refine SX.seq ?_
    refine SX.region ?_
    refine SXL.assign rfl ?_
    refine SXL.nil ?_
    refine thenQ.normal ?_
    refine SX.ret ?_
    refine thenQ.ret ?_
    refine retQ.one (ResAt.tmp rfl) ?_
    exact congrArg Value.bool (decide_eq_false (by intro h; subst h; omega)).symm
  · refine SX.skip ?_
    refine thenQ.normal ?_
    refine SX.seq ?_
    refine SX.seq ?_
    refine SX.region ?_
    refine SXL.assign rfl ?_
    refine SXL.nil ?_
    refine thenQ.normal ?_
    refine SX.block ?_
    refine SX.loopG (α := Nat) [0, 1, 4] rfl (fun k => [(5, .int .i64 ((k : Int)))]) (fun k => []) (fun k => k ≤ l.length ∧ ∀ i, i < k → l.getD i 0 = m.getD i 0) (fun k => l.length - k) 0 ⟨Nat.zero_le _, fun _ h => absurd h (Nat.not_lt_zero _)⟩ ⟨rfl, trivial⟩ rfl ?_
    rintro k ⟨hk, hall⟩
    refine SX.seq ?_
    refine SX.seq ?_
    refine SX.region ?_
    refine SXL.move rfl ?_
    refine SXL.move rfl ?_
    refine SXL.len is_35 rfl ?_
    refine SXL.lss rfl rfl ?_
    refine SXL.nil ?_
    refine thenQ.normal ?_
    refine SX.condP rfl (fun c14 => ?_) (fun c14 => ?_)
    · refine SX.skip ?_
      refine thenQ.normal ?_
      refine SX.seq ?_
      refine SX.block ?_
      refine SX.seq ?_
      obtain ⟨b, o, ha, hm⟩ := oneI h1 (i := k) (by omega)
      obtain ⟨b2, o2, ha2, hm2⟩ := oneI h2 (i := k) (by omega)
      refine SX.draw 9 (by kernel_rfl) (by kernel_rfl) {} ?_
      refine SXA.take 0 9 rfl (by kernel_rfl) rfl ?_
      refine SXL.move rfl ?_
      refine SXL.move rfl ?_
      refine SXL.indexR el_35 rfl rfl ha (by omega) ?_
      refine SXL.load1 sh_3 rfl (hm _) ?_
      refine SXL.move rfl ?_
      refine SXL.move rfl ?_
      refine SXL.indexR el_35 rfl rfl ha2 (by omega) ?_
      refine SXL.load1 sh_3 rfl (hm2 _) ?_
      refine SXL.neqI rfl rfl ?_
      refine SXL.nil ⟨rfl, rfl, rfl, ?_⟩
      refine SXA.done (by kernel_rfl) ?_
      refine SXL.nil ?_
      refine thenQ.normal ?_
      refine SX.condP rfl (fun c25 => ?_) (fun c25 => ?_)
      · refine SX.seq ?_
        refine SX.region ?_
        refine SXL.assign rfl ?_
        refine SXL.nil ?_
        refine thenQ.normal ?_
        refine SX.ret ?_
        refine blockQ.ret ?_
        refine thenQ.ret ?_
        refine thenQ.ret ?_
        refine blockQ.ret ?_
        refine thenQ.ret ?_
        refine retQ.one (ResAt.tmp rfl) ?_
        exact congrArg Value.bool (decide_eq_false (by intro h; subst h; exact c25 rfl)).symm
      · refine SX.skip ?_
        refine blockQ.normal ?_
        refine thenQ.normal ?_
        refine SX.region ?_
        refine SXL.move rfl ?_
        refine SXL.add rfl rfl (by omega) ?_
        refine SXL.assign rfl ?_
        refine SXL.nil ?_
        refine thenQ.normal ?_
        refine ⟨k + 1, Meets.mk _ ⟨rfl, trivial⟩ ⟨rfl, rfl, rfl, trivial⟩ rfl, ?_, (by omega)⟩
        refine ⟨by omega, fun i hi => ?_⟩
        by_cases e : i = k
        · subst e; exact Decidable.not_not.1 c25
        · exact hall i (by omega)
    · refine SX.exit ?_
      refine thenQ.exit ?_
      refine thenQ.exit ?_
      refine blockQ.exit ?_
      refine thenQ.normal ?_
      refine SX.seq ?_
      refine SX.region ?_
      refine SXL.assign rfl ?_
      refine SXL.nil ?_
      refine thenQ.normal ?_
      refine SX.ret ?_
      refine retQ.one (ResAt.tmp rfl) ?_
      exact congrArg Value.bool (decide_eq_true (List.ext_getElem (by omega) (fun i h3 h4 => by have := hall i (by omega); simpa [h3, h4] using this))).symm
theorem same_any (x y : Sp) (xb xr yb yr : Option Addr) (xbc xrc ybc yrc : Nat) (hm1 : x.book.length ≤ 1000000) (hm2 : x.reads.length ≤ 1000000) (w : World) (hx : SpAt w x xb xr) (hy : SpAt w y yb yr) :
    CallsR Tryd.prog 29 [.agg ⟨[.int .i64 x.weeks, .int .i64 x.most, .int .i64 x.fall, .int .i64 x.a0, .int .i64 x.a1, .int .i64 x.w0, .int .i64 x.w1, (.slice xb x.book.length xbc), (.slice xr x.reads.length xrc)]⟩, .agg ⟨[.int .i64 y.weeks, .int .i64 y.most, .int .i64 y.fall, .int .i64 y.a0, .int .i64 y.a1, .int .i64 y.w0, .int .i64 y.w1, (.slice yb y.book.length ybc), (.slice yr y.reads.length yrc)]⟩] w (fun v _ => v = .bool (decide (x = y))) := by
  refine CallsR.of_SX (n := 94) (rs := [.tmp 4]) Tryd.func29 rfl rfl rfl rfl ?_
  show SX _ _ _ ⟨[(0, .agg ⟨[.int .i64 x.weeks, .int .i64 x.most, .int .i64 x.fall, .int .i64 x.a0, .int .i64 x.a1, .int .i64 x.w0, .int .i64 x.w1, (.slice xb x.book.length xbc), (.slice xr x.reads.length xrc)]⟩), (1, .agg ⟨[.int .i64 y.weeks, .int .i64 y.most, .int .i64 y.fall, .int .i64 y.a0, .int .i64 y.a1, .int .i64 y.w0, .int .i64 y.w1, (.slice yb y.book.length ybc), (.slice yr y.reads.length yrc)]⟩)], [], []⟩
  refine SX.seq ?_
  refine SX.region ?_
  refine SXL.box rfl rfl ?_; intro b0
  refine SXL.box rfl rfl ?_; intro b1
  refine SXL.assign rfl ?_
  refine SXL.nil ?_
  refine thenQ.normal ?_
  refine SX.seq ?_
  refine SX.seq ?_
  refine SX.region ?_
  refine SXL.fieldAddr fp_27_0 rfl ?_
  refine SXL.load1o 0 sh_3 rfl rfl rfl ?_
  refine SXL.fieldAddr fp_27_0 rfl ?_
  refine SXL.load1o 1 sh_3 rfl rfl rfl ?_
  refine SXL.neqI rfl rfl ?_
  refine SXL.move rfl ?_
  apply SXL.orG 5
  case hl => exact rfl
  case hd => exact rfl
  case hg => exact rfl
  case ht =>
    intro g1
    refine SXL.pass rfl rfl rfl ?_
    refine SXL.pass rfl rfl rfl ?_
    refine SXL.pass rfl rfl rfl ?_
    refine SXL.pass rfl rfl rfl ?_
    refine SXL.pass rfl rfl rfl ?_
    exact SXL.nil (segQ.mk (.skip rfl (.skip rfl (.skip rfl (.skip rfl (.skip rfl (.skip rfl (EnvSub.refl _))))))) rfl rfl rfl)
  case hf =>
    intro g1
    refine SXL.fieldAddr fp_27_1 rfl ?_
    refine SXL.load1o 0 sh_3 rfl rfl rfl ?_
    refine SXL.fieldAddr fp_27_1 rfl ?_
    refine SXL.load1o 1 sh_3 rfl rfl rfl ?_
    refine SXL.neqI rfl rfl ?_
    exact SXL.nil (segQ.mk (.skip rfl (.skip rfl (.skip rfl (.skip rfl (.skip rfl (.skip rfl (EnvSub.refl _))))))) rfl rfl ⟨rfl, rfl⟩)
  refine SXL.move rfl ?_
  apply SXL.orG 5
  case hl => exact rfl
  case hd => exact rfl
  case hg => exact rfl
  case ht =>
    intro g2
    refine SXL.pass rfl rfl rfl ?_
    refine SXL.pass rfl rfl rfl ?_
    refine SXL.pass rfl rfl rfl ?_
    refine SXL.pass rfl rfl rfl ?_
    refine SXL.pass rfl rfl rfl ?_
    exact SXL.nil (segQ.mk (.skip rfl (.skip rfl (.skip rfl (.skip rfl (.skip rfl (.skip rfl (EnvSub.refl _))))))) rfl rfl rfl)
  case hf =>
    intro g2
    refine SXL.fieldAddr fp_27_2 rfl ?_
    refine SXL.load1o 0 sh_3 rfl rfl rfl ?_
    refine SXL.fieldAddr fp_27_2 rfl ?_
    refine SXL.load1o 1 sh_3 rfl rfl rfl ?_
    refine SXL.neqI rfl rfl ?_
    exact SXL.nil (segQ.mk (.skip rfl (.skip rfl (.skip rfl (.skip rfl (.skip rfl (.skip rfl (EnvSub.refl _))))))) rfl rfl ⟨rfl, rfl⟩)
  refine SXL.move rfl ?_
  apply SXL.orG 5
  case hl => exact rfl
  case hd => exact rfl
  case hg => exact rfl
  case ht =>
    intro g3
    refine SXL.pass rfl rfl rfl ?_
    refine SXL.pass rfl rfl rfl ?_
    refine SXL.pass rfl rfl rfl ?_
    refine SXL.pass rfl rfl rfl ?_
    refine SXL.pass rfl rfl rfl ?_
    exact SXL.nil (segQ.mk (.skip rfl (.skip rfl (.skip rfl (.skip rfl (.skip rfl (.skip rfl (EnvSub.refl _))))))) rfl rfl rfl)
  case hf =>
    intro g3
    refine SXL.fieldAddr fp_27_3 rfl ?_
    refine SXL.loadNo 0 sh_23 rfl rfl rfl ?_
    refine SXL.fieldAddr fp_27_3 rfl ?_
    refine SXL.loadNo 1 sh_23 rfl rfl rfl ?_
    refine SXL.neqV (p := [x.a0, x.a1] ≠ [y.a0, y.a1]) (u := .agg ⟨ints ([x.a0, x.a1])⟩) (v := .agg ⟨ints ([y.a0, y.a1])⟩) rfl rfl (run_neq_ints eq_23 eg_23 sh_23 rfl rfl) ?_
    exact SXL.nil (segQ.mk (.skip rfl (.skip rfl (.skip rfl (.skip rfl (.skip rfl (.skip rfl (EnvSub.refl _))))))) rfl rfl ⟨rfl, rfl⟩)
  refine SXL.move rfl ?_
  apply SXL.orG 5
  case hl => exact rfl
  case hd => exact rfl
  case hg => exact rfl
  case ht =>
    intro g4
    refine SXL.pass rfl rfl rfl ?_
    refine SXL.pass rfl rfl rfl ?_
    refine SXL.pass rfl rfl rfl ?_
    refine SXL.pass rfl rfl rfl ?_
    refine SXL.pass rfl rfl rfl ?_
    exact SXL.nil (segQ.mk (.skip rfl (.skip rfl (.skip rfl (.skip rfl (.skip rfl (.skip rfl (EnvSub.refl _))))))) rfl rfl rfl)
  case hf =>
    intro g4
    refine SXL.fieldAddr fp_27_4 rfl ?_
    refine SXL.loadNo 0 sh_23 rfl rfl rfl ?_
    refine SXL.fieldAddr fp_27_4 rfl ?_
    refine SXL.loadNo 1 sh_23 rfl rfl rfl ?_
    refine SXL.neqV (p := [x.w0, x.w1] ≠ [y.w0, y.w1]) (u := .agg ⟨ints ([x.w0, x.w1])⟩) (v := .agg ⟨ints ([y.w0, y.w1])⟩) rfl rfl (run_neq_ints eq_23 eg_23 sh_23 rfl rfl) ?_
    exact SXL.nil (segQ.mk (.skip rfl (.skip rfl (.skip rfl (.skip rfl (.skip rfl (.skip rfl (EnvSub.refl _))))))) rfl rfl ⟨rfl, rfl⟩)
  refine SXL.move rfl ?_
  apply SXL.orG 7
  case hl => exact rfl
  case hd => exact rfl
  case hg => exact rfl
  case ht =>
    intro g5
    refine SXL.pass rfl rfl rfl ?_
    refine SXL.pass rfl rfl rfl ?_
    refine SXL.pass rfl rfl rfl ?_
    refine SXL.pass rfl rfl rfl ?_
    refine SXL.pass rfl rfl rfl ?_
    refine SXL.pass rfl rfl rfl ?_
    refine SXL.pass rfl rfl rfl ?_
    exact SXL.nil (segQ.mk (.skip rfl (.skip rfl (.skip rfl (.skip rfl (.skip rfl (.skip rfl (.skip rfl (.skip rfl (EnvSub.refl _))))))))) rfl rfl rfl)
  case hf =>
    intro g5
    refine SXL.fieldAddr fp_27_5 rfl ?_
    refine SXL.load1o 0 sh_24 rfl rfl rfl ?_
    refine SXL.len is_24 rfl ?_
    refine SXL.fieldAddr fp_27_5 rfl ?_
    refine SXL.load1o 1 sh_24 rfl rfl rfl ?_
    refine SXL.len is_24 rfl ?_
    refine SXL.neqI rfl rfl ?_
    exact SXL.nil (segQ.mk (.skip rfl (.skip rfl (.skip rfl (.skip rfl (.skip rfl (.skip rfl (.skip rfl (.skip rfl (EnvSub.refl _))))))))) rfl rfl ⟨rfl, rfl⟩)
  refine SXL.move rfl ?_
  apply SXL.orG 7
  case hl => exact rfl
  case hd => exact rfl
  case hg => exact rfl
  case ht =>
    intro c57
    refine SXL.pass rfl rfl rfl ?_
    refine SXL.pass rfl rfl rfl ?_
    refine SXL.pass rfl rfl rfl ?_
    refine SXL.pass rfl rfl rfl ?_
    refine SXL.pass rfl rfl rfl ?_
    refine SXL.pass rfl rfl rfl ?_
    refine SXL.pass rfl rfl rfl ?_
    exact SXL.nil (segQ.mk (.skip rfl (.skip rfl (.skip rfl (.skip rfl (.skip rfl (.skip rfl (.skip rfl (.skip rfl (EnvSub.refl _))))))))) rfl rfl rfl)
  case hf =>
    intro c57
    refine SXL.fieldAddr fp_27_6 rfl ?_
    refine SXL.load1o 0 sh_25 rfl rfl rfl ?_
    refine SXL.len is_25 rfl ?_
    refine SXL.fieldAddr fp_27_6 rfl ?_
    refine SXL.load1o 1 sh_25 rfl rfl rfl ?_
    refine SXL.len is_25 rfl ?_
    refine SXL.neqI rfl rfl ?_
    exact SXL.nil (segQ.mk (.skip rfl (.skip rfl (.skip rfl (.skip rfl (.skip rfl (.skip rfl (.skip rfl (.skip rfl (EnvSub.refl _))))))))) rfl rfl ⟨rfl, rfl⟩)
  refine SXL.nil ?_
  refine thenQ.normal ?_
  refine SX.condP rfl (fun c57 => ?_) (fun c57 => ?_)
  · refine SX.seq ?_
    refine SX.region ?_
    refine SXL.assign rfl ?_
    refine SXL.nil ?_
    refine thenQ.normal ?_
    refine SX.ret ?_
    refine thenQ.ret ?_
    refine retQ.one (ResAt.tmp rfl) ?_
    exact congrArg Value.bool (decide_eq_false (by intro h; subst h; simp at c57)).symm
  · refine SX.skip ?_
    refine thenQ.normal ?_
    refine SX.seq ?_
    refine SX.seq ?_
    refine SX.region ?_
    refine SXL.assign rfl ?_
    refine SXL.nil ?_
    refine thenQ.normal ?_
    refine SX.block ?_
    refine SX.loopG (α := Nat) [2, 3, 4] rfl (fun k => [(5, .int .i64 ((k : Int)))]) (fun k => []) (fun k => k ≤ x.book.length ∧ ∀ i, i < k → x.book.getD i default = y.book.getD i default) (fun k => x.book.length - k) 0 ⟨Nat.zero_le _, fun _ h => absurd h (Nat.not_lt_zero _)⟩ ⟨rfl, trivial⟩ rfl ?_
    rintro k ⟨hk, hall⟩
    refine SX.seq ?_
    refine SX.seq ?_
    refine SX.region ?_
    refine SXL.move rfl ?_
    refine SXL.fieldAddr fp_27_5 rfl ?_
    refine SXL.load1o 0 sh_24 rfl rfl rfl ?_
    refine SXL.len is_24 rfl ?_
    refine SXL.lss rfl rfl ?_
    refine SXL.nil ?_
    refine thenQ.normal ?_
    refine SX.condP rfl (fun c62 => ?_) (fun c62 => ?_)
    · refine SX.skip ?_
      refine thenQ.normal ?_
      refine SX.seq ?_
      refine SX.block ?_
      refine SX.seq ?_
      obtain ⟨b, o, ha, hm⟩ := hx.lineD (i := k) (by omega)
      obtain ⟨b2, o2, ha2, hn⟩ := hy.lineD (i := k) (by omega)
      refine SX.draw 11 (by kernel_rfl) (by kernel_rfl) {} ?_
      refine SXA.take 0 11 rfl (by kernel_rfl) rfl ?_
      refine SXL.fieldAddr fp_27_5 rfl ?_
      refine SXL.load1o 0 sh_24 rfl rfl rfl ?_
      refine SXL.move rfl ?_
      refine SXL.indexR el_24 rfl rfl ha (by omega) ?_
      refine SXL.loadN sh_61 rfl (hm _) rfl ?_
      refine SXL.fieldAddr fp_27_5 rfl ?_
      refine SXL.load1o 1 sh_24 rfl rfl rfl ?_
      refine SXL.move rfl ?_
      refine SXL.indexR el_24 rfl rfl ha2 (by omega) ?_
      refine SXL.loadN sh_61 rfl (hn _) rfl ?_
      refine SXL.neqV (p := (x.book.getD k default).ints ≠ (y.book.getD k default).ints) (u := .agg ⟨ints ((x.book.getD k default).ints)⟩) (v := .agg ⟨ints ((y.book.getD k default).ints)⟩) rfl rfl (run_neq_ints eq_61 eg_61 sh_61 rfl rfl) ?_
      refine SXL.nil ⟨rfl, rfl, rfl, ?_⟩
      refine SXA.done (by kernel_rfl) ?_
      refine SXL.nil ?_
      refine thenQ.normal ?_
      refine SX.condP rfl (fun c75 => ?_) (fun c75 => ?_)
      · refine SX.seq ?_
        refine SX.region ?_
        refine SXL.assign rfl ?_
        refine SXL.nil ?_
        refine thenQ.normal ?_
        refine SX.ret ?_
        refine blockQ.ret ?_
        refine thenQ.ret ?_
        refine thenQ.ret ?_
        refine blockQ.ret ?_
        refine thenQ.ret ?_
        refine retQ.one (ResAt.tmp rfl) ?_
        exact congrArg Value.bool (decide_eq_false (by intro h; subst h; exact c75 rfl)).symm
      · refine SX.skip ?_
        refine blockQ.normal ?_
        refine thenQ.normal ?_
        refine SX.region ?_
        refine SXL.move rfl ?_
        refine SXL.add rfl rfl (by omega) ?_
        refine SXL.assign rfl ?_
        refine SXL.nil ?_
        refine thenQ.normal ?_
        refine ⟨k + 1, Meets.mk _ ⟨rfl, trivial⟩ ⟨rfl, rfl, rfl, trivial⟩ rfl, ?_, (by omega)⟩
        refine ⟨by omega, fun i hi => ?_⟩
        by_cases e : i = k
        · subst e; exact Ln.ints_inj.1 (Decidable.not_not.1 c75)
        · exact hall i (by omega)
    · refine SX.exit ?_
      refine thenQ.exit ?_
      refine thenQ.exit ?_
      refine blockQ.exit ?_
      refine thenQ.normal ?_
      refine SX.seq ?_
      refine SX.seq ?_
      refine SX.region ?_
      refine SXL.assign rfl ?_
      refine SXL.nil ?_
      refine thenQ.normal ?_
      refine SX.block ?_
      refine SX.loopG (α := Nat) [2, 3, 4] rfl (fun k => [(6, .int .i64 ((k : Int)))]) (fun k => []) (fun k => k ≤ x.reads.length ∧ ∀ i, i < k → x.reads.getD i default = y.reads.getD i default) (fun k => x.reads.length - k) 0 ⟨Nat.zero_le _, fun _ h => absurd h (Nat.not_lt_zero _)⟩ ⟨rfl, trivial⟩ rfl ?_
      rintro k ⟨hk2, hall2⟩
      refine SX.seq ?_
      refine SX.seq ?_
      refine SX.region ?_
      refine SXL.move rfl ?_
      refine SXL.fieldAddr fp_27_6 rfl ?_
      refine SXL.load1o 0 sh_25 rfl rfl rfl ?_
      refine SXL.len is_25 rfl ?_
      refine SXL.lss rfl rfl ?_
      refine SXL.nil ?_
      refine thenQ.normal ?_
      refine SX.condP rfl (fun c80 => ?_) (fun c80 => ?_)
      · refine SX.skip ?_
        refine thenQ.normal ?_
        refine SX.seq ?_
        refine SX.block ?_
        refine SX.seq ?_
        obtain ⟨b, o, ha, hm⟩ := hx.readD (i := k) (by omega)
        obtain ⟨b2, o2, ha2, hn⟩ := hy.readD (i := k) (by omega)
        refine SX.draw 11 (by kernel_rfl) (by kernel_rfl) {} ?_
        refine SXA.take 0 11 rfl (by kernel_rfl) rfl ?_
        refine SXL.fieldAddr fp_27_6 rfl ?_
        refine SXL.load1o 0 sh_25 rfl rfl rfl ?_
        refine SXL.move rfl ?_
        refine SXL.indexR el_25 rfl rfl ha (by omega) ?_
        refine SXL.loadN sh_54 rfl (hm _) rfl ?_
        refine SXL.fieldAddr fp_27_6 rfl ?_
        refine SXL.load1o 1 sh_25 rfl rfl rfl ?_
        refine SXL.move rfl ?_
        refine SXL.indexR el_25 rfl rfl ha2 (by omega) ?_
        refine SXL.loadN sh_54 rfl (hn _) rfl ?_
        refine SXL.neqV (p := (x.reads.getD k default).ints ≠ (y.reads.getD k default).ints) (u := .agg ⟨ints ((x.reads.getD k default).ints)⟩) (v := .agg ⟨ints ((y.reads.getD k default).ints)⟩) rfl rfl (run_neq_ints eq_54 eg_54 sh_54 rfl rfl) ?_
        refine SXL.nil ⟨rfl, rfl, rfl, ?_⟩
        refine SXA.done (by kernel_rfl) ?_
        refine SXL.nil ?_
        refine thenQ.normal ?_
        refine SX.condP rfl (fun c93 => ?_) (fun c93 => ?_)
        · refine SX.seq ?_
          refine SX.region ?_
          refine SXL.assign rfl ?_
          refine SXL.nil ?_
          refine thenQ.normal ?_
          refine SX.ret ?_
          refine blockQ.ret ?_
          refine thenQ.ret ?_
          refine thenQ.ret ?_
          refine blockQ.ret ?_
          refine thenQ.ret ?_
          refine retQ.one (ResAt.tmp rfl) ?_
          exact congrArg Value.bool (decide_eq_false (by intro h; subst h; exact c93 rfl)).symm
        · refine SX.skip ?_
          refine blockQ.normal ?_
          refine thenQ.normal ?_
          refine SX.region ?_
          refine SXL.move rfl ?_
          refine SXL.add rfl rfl (by omega) ?_
          refine SXL.assign rfl ?_
          refine SXL.nil ?_
          refine thenQ.normal ?_
          refine ⟨k + 1, Meets.mk _ ⟨rfl, trivial⟩ ⟨rfl, rfl, rfl, trivial⟩ rfl, ?_, (by omega)⟩
          refine ⟨by omega, fun i hi => ?_⟩
          by_cases e : i = k
          · subst e; exact Rd.ints_inj.1 (Decidable.not_not.1 c93)
          · exact hall2 i (by omega)
      · refine SX.exit ?_
        refine thenQ.exit ?_
        refine thenQ.exit ?_
        refine blockQ.exit ?_
        refine thenQ.normal ?_
        refine SX.seq ?_
        refine SX.region ?_
        refine SXL.assign rfl ?_
        refine SXL.nil ?_
        refine thenQ.normal ?_
        refine SX.ret ?_
        refine retQ.one (ResAt.tmp rfl) ?_
        exact congrArg Value.bool (decide_eq_true (sp_ext (by simp at c57; omega) (fun i hi => hall i (by omega)) (fun i hi => hall2 i (by omega)))).symm
theorem twin_any (s : Sp) (bo ro : Option Addr) (bc rc : Nat) (hm1 : s.book.length ≤ 1000000) (hm2 : s.reads.length ≤ 1000000) (w : World) (hs : SpAt w s bo ro) :
    CallsR Tryd.prog 17 [.agg ⟨[.int .i64 s.weeks, .int .i64 s.most, .int .i64 s.fall, .int .i64 s.a0, .int .i64 s.a1, .int .i64 s.w0, .int .i64 s.w1, (.slice bo s.book.length bc), (.slice ro s.reads.length rc)]⟩] w (SpR s) := by
  refine CallsR.of_SX (n := 14) (rs := [.cell 2 27]) Tryd.func17 rfl rfl rfl rfl ?_
  show SX _ _ _ ⟨[(0, .agg ⟨[.int .i64 s.weeks, .int .i64 s.most, .int .i64 s.fall, .int .i64 s.a0, .int .i64 s.a1, .int .i64 s.w0, .int .i64 s.w1, (.slice bo s.book.length bc), (.slice ro s.reads.length rc)]⟩)], [], []⟩
  refine SX.seq ?_
  refine SX.region ?_
  refine SXL.box rfl rfl ?_; intro b0
  refine SXL.alloc zp_27 ?_; intro b1
  refine SXL.nil ?_
  refine thenQ.normal ?_
  refine SX.seq ?_
  refine SX.draw 9 (by kernel_rfl) (by kernel_rfl) {} ?_
  refine SXA.take 1 2 rfl (by kernel_rfl) rfl ?_
  refine SXL.fieldAddr fp_27_5 rfl ?_
  refine SXL.load1o 0 sh_24 rfl rfl rfl ?_
  refine SXL.nil ⟨rfl, rfl, rfl, ?_⟩
  refine SXA.take 5 2 rfl (by kernel_rfl) rfl ?_
  refine SXL.fieldAddr fp_27_6 rfl ?_
  refine SXL.load1o 0 sh_25 rfl rfl rfl ?_
  refine SXL.nil ⟨rfl, rfl, rfl, ?_⟩
  refine SXA.all [0, 4] (by kernel_rfl) rfl ⟨⟨?_, rfl⟩, ⟨?_, rfl⟩, trivial⟩
  · refine (show SXL _ _ [_] _ _ from ?_)
    refine SXL.buildSlice0 et_24 ?_; intro b2
    refine SXL.nil (stepQ.mk _ rfl rfl ?_)
    refine SXA.all [3, 4] (by kernel_rfl) rfl ⟨⟨?_, rfl⟩, ⟨?_, rfl⟩, trivial⟩
    · refine (show SXL _ _ [_] _ _ from ?_)
      refine SXL.appendE (some b2) ap_24 rfl rfl (hs.bookSrc _) (bookC_len _) (bookC_one _) ⟨by simp only [maxLen]; omega, by omega⟩ ?_; intro r_6 o_6
      refine SXL.nil (stepQ.mk _ rfl rfl ?_)
      refine SXA.take 8 1 rfl (by kernel_rfl) rfl ?_
      refine SXL.fieldAddr fp_27_5 rfl ?_
      refine SXL.nil ⟨rfl, rfl, rfl, ?_⟩
      refine SXA.all [4] (by kernel_rfl) rfl ⟨⟨?_, rfl⟩, trivial⟩
      refine (show SXL _ _ [_] _ _ from ?_)
      refine SXL.buildSlice0 et_25 ?_; intro b4
      refine SXL.nil (stepQ.mk _ rfl rfl ?_)
      refine SXA.all [7] (by kernel_rfl) rfl ⟨⟨?_, rfl⟩, trivial⟩
      refine (show SXL _ _ [_] _ _ from ?_)
      refine SXL.appendE (some b4) ap_25 rfl rfl (hs.readsSrc _) (readsC_len _) (readsC_one _) ⟨by simp only [maxLen]; omega, by omega⟩ ?_; intro r_10 o_10
      refine SXL.nil (stepQ.mk _ rfl rfl ?_)
      refine SXA.done (by kernel_rfl) ?_
      refine SXL.store 0 sz_24 rfl rfl rfl rfl rfl rfl ?_
      refine SXL.fieldAddr fp_27_6 rfl ?_
      refine SXL.store 0 sz_25 rfl rfl rfl rfl rfl rfl ?_
      refine SXL.nil ?_
      refine thenQ.normal ?_
      refine SX.seq ?_
      refine SX.region ?_
      refine SXL.loadNo 0 sh_27 rfl rfl rfl ?_
      refine SXL.store 1 sz_27 rfl rfl rfl rfl rfl rfl ?_
      refine SXL.nil ?_
      refine thenQ.normal ?_
      refine SX.ret ?_
      refine retQ.sel [3, 5] rfl rfl ?_
      refine retQ.one (ResAt.cellNo 1 sh_27 rfl rfl rfl) ?_
      exact ⟨r_6, r_10, o_6, o_10, rfl, rfl⟩
    · refine (show SXL _ _ [_] _ _ from ?_)
      refine SXL.buildSlice0 et_25 ?_; intro b3
      refine SXL.nil (stepQ.mk _ rfl rfl ?_)
      refine SXA.all [3] (by kernel_rfl) rfl ⟨⟨?_, rfl⟩, trivial⟩
      refine (show SXL _ _ [_] _ _ from ?_)
      refine SXL.appendE (some b2) ap_24 rfl rfl (hs.bookSrc _) (bookC_len _) (bookC_one _) ⟨by simp only [maxLen]; omega, by omega⟩ ?_; intro r_6 o_6
      refine SXL.nil (stepQ.mk _ rfl rfl ?_)
      refine SXA.take 8 1 rfl (by kernel_rfl) rfl ?_
      refine SXL.fieldAddr fp_27_5 rfl ?_
      refine SXL.nil ⟨rfl, rfl, rfl, ?_⟩
      refine SXA.all [7] (by kernel_rfl) rfl ⟨⟨?_, rfl⟩, trivial⟩
      refine (show SXL _ _ [_] _ _ from ?_)
      refine SXL.appendE (some b3) ap_25 rfl rfl (hs.readsSrc _) (readsC_len _) (readsC_one _) ⟨by simp only [maxLen]; omega, by omega⟩ ?_; intro r_10 o_10
      refine SXL.nil (stepQ.mk _ rfl rfl ?_)
      refine SXA.done (by kernel_rfl) ?_
      refine SXL.store 0 sz_24 rfl rfl rfl rfl rfl rfl ?_
      refine SXL.fieldAddr fp_27_6 rfl ?_
      refine SXL.store 0 sz_25 rfl rfl rfl rfl rfl rfl ?_
      refine SXL.nil ?_
      refine thenQ.normal ?_
      refine SX.seq ?_
      refine SX.region ?_
      refine SXL.loadNo 0 sh_27 rfl rfl rfl ?_
      refine SXL.store 1 sz_27 rfl rfl rfl rfl rfl rfl ?_
      refine SXL.nil ?_
      refine thenQ.normal ?_
      refine SX.ret ?_
      refine retQ.sel [4, 5] rfl rfl ?_
      refine retQ.one (ResAt.cellNo 1 sh_27 rfl rfl rfl) ?_
      exact ⟨r_6, r_10, o_6, o_10, rfl, rfl⟩
  · refine (show SXL _ _ [_] _ _ from ?_)
    refine SXL.buildSlice0 et_25 ?_; intro b2
    refine SXL.nil (stepQ.mk _ rfl rfl ?_)
    refine SXA.all [0] (by kernel_rfl) rfl ⟨⟨?_, rfl⟩, trivial⟩
    refine (show SXL _ _ [_] _ _ from ?_)
    refine SXL.buildSlice0 et_24 ?_; intro b3
    refine SXL.nil (stepQ.mk _ rfl rfl ?_)
    refine SXA.all [3] (by kernel_rfl) rfl ⟨⟨?_, rfl⟩, trivial⟩
    refine (show SXL _ _ [_] _ _ from ?_)
    refine SXL.appendE (some b3) ap_24 rfl rfl (hs.bookSrc _) (bookC_len _) (bookC_one _) ⟨by simp only [maxLen]; omega, by omega⟩ ?_; intro r_6 o_6
    refine SXL.nil (stepQ.mk _ rfl rfl ?_)
    refine SXA.take 8 1 rfl (by kernel_rfl) rfl ?_
    refine SXL.fieldAddr fp_27_5 rfl ?_
    refine SXL.nil ⟨rfl, rfl, rfl, ?_⟩
    refine SXA.all [7] (by kernel_rfl) rfl ⟨⟨?_, rfl⟩, trivial⟩
    refine (show SXL _ _ [_] _ _ from ?_)
    refine SXL.appendE (some b2) ap_25 rfl rfl (hs.readsSrc _) (readsC_len _) (readsC_one _) ⟨by simp only [maxLen]; omega, by omega⟩ ?_; intro r_10 o_10
    refine SXL.nil (stepQ.mk _ rfl rfl ?_)
    refine SXA.done (by kernel_rfl) ?_
    refine SXL.store 0 sz_24 rfl rfl rfl rfl rfl rfl ?_
    refine SXL.fieldAddr fp_27_6 rfl ?_
    refine SXL.store 0 sz_25 rfl rfl rfl rfl rfl rfl ?_
    refine SXL.nil ?_
    refine thenQ.normal ?_
    refine SX.seq ?_
    refine SX.region ?_
    refine SXL.loadNo 0 sh_27 rfl rfl rfl ?_
    refine SXL.store 1 sz_27 rfl rfl rfl rfl rfl rfl ?_
    refine SXL.nil ?_
    refine thenQ.normal ?_
    refine SX.ret ?_
    refine retQ.sel [4, 5] rfl rfl ?_
    refine retQ.one (ResAt.cellNo 1 sh_27 rfl rfl rfl) ?_
    exact ⟨r_6, r_10, o_6, o_10, rfl, rfl⟩
end Go.Proofs.YtknflipongbngaaDoor

/- The walks of functions. -/
namespace Go.Proofs.YtknflipongbngaaDoor
open Go.X Go.S Go.RowKit
theorem mk_173 : mapKB Tryd.prog 173 = true := by kernel_rfl
theorem cloneInts (l : List Int) (ao : Option Addr) (c : Nat) (hl : l.length ≤ 1000000) (w : World) (h : RowsAt w ao 1 (ones l)) :
    CallsR Tryd.prog 87 [.slice ao l.length c] w (IsI l) := by
  refine CallsR.of_SX (n := 8) (rs := [.tmp 2]) Tryd.func87 rfl rfl rfl rfl ?_
  show SX _ _ _ ⟨[(0, .slice ao l.length c)], [], []⟩
  refine SX.seq ?_
  refine SX.region ?_
  refine SXL.assign rfl ?_
  refine SXL.nil ?_
  refine thenQ.normal ?_
  refine SX.seq ?_
  refine SX.seq ?_
  refine SX.region ?_
  refine SXL.move rfl ?_
  refine SXL.eqlS is_35 rfl rfl ?_
  refine SXL.nil ?_
  refine thenQ.normal ?_
  refine SX.condP rfl (fun c4 => ?_) (fun c4 => ?_)
  · refine SX.seq ?_
    subst c4
    refine SX.region ?_
    refine SXL.assign rfl ?_
    refine SXL.nil ?_
    refine thenQ.normal ?_
    refine SX.ret ?_
    refine thenQ.ret ?_
    refine retQ.dead [Sl.nil.ent 3 []] rfl ?_
    refine retQ.one (ResAt.tmp rfl) ?_
    have hl0 : l = [] := by
      rcases h with h | ⟨b, o, h, _⟩
      · simpa [ones] using h
      · cases h
    subst hl0
    exact ⟨Sl.nil, .none _, rfl, rfl⟩
  · refine SX.skip ?_
    refine thenQ.normal ?_
    refine SX.seq ?_
    refine SX.region ?_
    refine SXL.buildSlice0 et_35 ?_; intro b0
    refine SXL.move rfl ?_
    refine SXL.appendE (some b0) ap_35 rfl rfl (onesSrc h _) (by simp) (ints_isOne _) ⟨by simp only [maxLen]; omega, by omega⟩ ?_; intro r_7 o_7
    refine SXL.assign rfl ?_
    refine SXL.nil ?_
    refine thenQ.normal ?_
    refine SX.ret ?_
    refine retQ.sel [1] rfl rfl ?_
    refine retQ.one (ResAt.tmp rfl) ?_
    exact ⟨r_7, o_7, rfl, rfl⟩
theorem cloneLines (s : Sp) (ao : Option Addr) (c : Nat) (hl : s.book.length ≤ 1000000) (w : World) (h : RowsAt w ao 5 (s.book.map Ln.cells)) :
    CallsR Tryd.prog 122 [.slice ao s.book.length c] w (IsB s) := by
  refine CallsR.of_SX (n := 8) (rs := [.tmp 2]) Tryd.func122 rfl rfl rfl rfl ?_
  show SX _ _ _ ⟨[(0, .slice ao s.book.length c)], [], []⟩
  refine SX.seq ?_
  refine SX.region ?_
  refine SXL.assign rfl ?_
  refine SXL.nil ?_
  refine thenQ.normal ?_
  refine SX.seq ?_
  refine SX.seq ?_
  refine SX.region ?_
  refine SXL.move rfl ?_
  refine SXL.eqlS is_24 rfl rfl ?_
  refine SXL.nil ?_
  refine thenQ.normal ?_
  refine SX.condP rfl (fun c4 => ?_) (fun c4 => ?_)
  · refine SX.seq ?_
    subst c4
    refine SX.region ?_
    refine SXL.assign rfl ?_
    refine SXL.nil ?_
    refine thenQ.normal ?_
    refine SX.ret ?_
    refine thenQ.ret ?_
    refine retQ.dead [Sl.nil.ent 61 []] rfl ?_
    refine retQ.one (ResAt.tmp rfl) ?_
    have hl0 : s.book = [] := by
      rcases h with h | ⟨b, o, h, _⟩
      · simpa using h
      · cases h
    have e : bookC s = [] := by rw [bookC, hl0]; rfl
    exact ⟨Sl.nil, by rw [e, hl0]; exact .none _, by rw [hl0]; rfl, by rw [e]⟩
  · refine SX.skip ?_
    refine thenQ.normal ?_
    refine SX.seq ?_
    refine SX.region ?_
    refine SXL.buildSlice0 et_24 ?_; intro b0
    refine SXL.move rfl ?_
    refine SXL.appendE (some b0) ap_24 rfl rfl (linesSrc h _) (bookC_len s) (bookC_one s) ⟨by simp only [maxLen]; omega, by omega⟩ ?_; intro r_7 o_7
    refine SXL.assign rfl ?_
    refine SXL.nil ?_
    refine thenQ.normal ?_
    refine SX.ret ?_
    refine retQ.sel [1] rfl rfl ?_
    refine retQ.one (ResAt.tmp rfl) ?_
    exact ⟨r_7, o_7, rfl, rfl⟩
theorem numbers_any (s : Sp) (bo ro : Option Addr) (bc rc : Nat) (_hb : s.book.length ≤ 1000000) (hr : s.reads.length ≤ 1000000) (w : World) (hs : SpAt w s bo ro) :
    CallsR Tryd.prog 83 [.agg ⟨[.int .i64 s.weeks, .int .i64 s.most, .int .i64 s.fall, .int .i64 s.a0, .int .i64 s.a1, .int .i64 s.w0, .int .i64 s.w1, (.slice bo s.book.length bc), (.slice ro s.reads.length rc)]⟩] w (IsI (numsL s)) := by
  refine CallsR.of_SX (n := 20) (rs := [.tmp 2]) Tryd.func83 rfl rfl rfl rfl ?_
  show SX _ _ _ ⟨[(0, .agg ⟨[.int .i64 s.weeks, .int .i64 s.most, .int .i64 s.fall, .int .i64 s.a0, .int .i64 s.a1, .int .i64 s.w0, .int .i64 s.w1, (.slice bo s.book.length bc), (.slice ro s.reads.length rc)]⟩)], [], []⟩
  refine SX.seq ?_
  refine SX.region ?_
  refine SXL.box rfl rfl ?_; intro b0
  refine SXL.assign rfl ?_
  refine SXL.nil ?_
  refine thenQ.normal ?_
  refine SX.seq ?_
  refine SX.pad (Sl.nil.ent 3 []) rfl ?_
  refine SX.region ?_
  refine SXL.assign rfl ?_
  refine SXL.nil ?_
  refine thenQ.normal ?_
  refine SX.seq ?_
  refine SX.seq ?_
  refine SX.region ?_
  refine SXL.fieldAddr fp_27_6 rfl ?_
  refine SXL.load1o 0 sh_25 rfl rfl rfl ?_
  refine SXL.len is_25 rfl ?_
  refine SXL.move rfl ?_
  refine SXL.nil ?_
  refine thenQ.normal ?_
  refine SX.block ?_
  refine SX.loopG (α := Nat × Sl × Nat × List Value) [2, 7, 8] rfl (fun ⟨k, q, n, c⟩ => [(9, .int .i64 ((k : Int))), (3, q.val n)]) (fun ⟨k, q, n, c⟩ => [(1, q.ent 3 c)]) (fun ⟨k, q, n, c⟩ => k ≤ s.reads.length ∧ q.Ok n 1 c ∧ c = ints ((s.reads.take k).map (·.num))) (fun ⟨k, q, n, c⟩ => s.reads.length - k) (0, Sl.nil, 0, []) ⟨Nat.zero_le _, .none _, rfl⟩ ⟨rfl, rfl, trivial⟩ rfl ?_
  rintro ⟨k, q, n, c⟩ ⟨hkl, ho, rfl⟩
  have hn1 := Ok.n ho
  rw [List.length_map, List.length_take] at hn1
  refine SX.seq ?_
  refine SX.region ?_
  refine SXL.lss rfl rfl ?_
  refine SXL.nil ?_
  refine thenQ.normal ?_
  refine SX.seq ?_
  refine SX.condP rfl (fun c1 => ?_) (fun c1 => ?_)
  · refine SX.skip ?_
    refine thenQ.normal ?_
    refine SX.seq ?_
    refine SX.block ?_
    refine SX.seq ?_
    have hk : k < s.reads.length := by omega
    obtain ⟨b, o, ha, hm⟩ := hs.readD hk
    refine SX.region ?_
    refine SXL.indexR el_25 rfl rfl ha (by omega) ?_
    refine SXL.loadN sh_54 rfl (hm _) rfl ?_
    refine SXL.alloc zp_54 ?_; intro b2
    refine SXL.store 2 sz_54 rfl rfl rfl rfl rfl rfl ?_
    refine SXL.nil ?_
    refine thenQ.normal ?_
    refine SX.region ?_
    refine SXL.move rfl ?_
    refine SXL.fieldAddr fp_54_0 rfl ?_
    refine SXL.load1o 2 sh_3 rfl rfl rfl ?_
    refine SXL.buildSlice et_35 zp_3 rfl rfl rfl rfl ?_; intro b3
    refine SXL.append 1 ap_35 rfl rfl ho rfl (.inr ⟨_, _, rfl, Mem.own (i := 3) rfl (takeAt_all _)⟩) rfl rfl ⟨by simp only [maxLen]; omega, by omega⟩ ?_; intro r_17 o_17
    refine SXL.assign rfl ?_
    refine SXL.nil ?_
    refine blockQ.normal ?_
    refine thenQ.normal ?_
    refine SX.region ?_
    refine SXL.add rfl rfl (by omega) ?_
    refine SXL.move rfl ?_
    refine SXL.nil ?_
    refine thenQ.normal ?_
    refine ⟨(k + 1, _, _, _), Meets.mk _ ⟨rfl, rfl, trivial⟩ ⟨rfl, rfl, rfl, trivial⟩ rfl, ⟨by omega, o_17, by rw [take_snoc hk]; simp [ints]⟩, (show s.reads.length - (k + 1) < s.reads.length - k by omega)⟩
  · refine SX.exit ?_
    refine thenQ.exit ?_
    refine thenQ.exit ?_
    refine blockQ.exit ?_
    refine thenQ.normal ?_
    refine SX.seq ?_
    obtain rfl : k = s.reads.length := by omega
    refine SX.region ?_
    refine SXL.move rfl ?_
    refine SXL.assign rfl ?_
    refine SXL.nil ?_
    refine thenQ.normal ?_
    refine SX.ret ?_
    refine retQ.sel [1] rfl rfl ?_
    refine retQ.one (ResAt.tmp rfl) ?_
    have e2 := Ok.n ho; subst e2; rw [List.take_length] at ho ⊢; exact ⟨q, ho, rfl, rfl⟩
set_option maxHeartbeats 2000000 in
theorem rwithout_any (s : Sp) (bo ro : Option Addr) (bc rc : Nat) (ns : List Int) (ao : Option Addr) (nc : Nat) (hn : ns.length ≤ 1000000) (hb : s.book.length ≤ 1000000) (hr : s.reads.length ≤ 1000000) (w : World) (hs : SpAt w s bo ro) (ha0 : RowsAt w ao 1 (ones ns)) :
    CallsR Tryd.prog 85 [.agg ⟨[.int .i64 s.weeks, .int .i64 s.most, .int .i64 s.fall, .int .i64 s.a0, .int .i64 s.a1, .int .i64 s.w0, .int .i64 s.w1, (.slice bo s.book.length bc), (.slice ro s.reads.length rc)]⟩, .slice ao ns.length nc] w (SpR (wo s ns)) := by
  refine CallsR.of_SX (n := 45) (rs := [.cell 4 27]) Tryd.func85 rfl rfl rfl rfl ?_
  show SX _ _ _ ⟨[(0, .agg ⟨[.int .i64 s.weeks, .int .i64 s.most, .int .i64 s.fall, .int .i64 s.a0, .int .i64 s.a1, .int .i64 s.w0, .int .i64 s.w1, (.slice bo s.book.length bc), (.slice ro s.reads.length rc)]⟩), (1, .slice ao ns.length nc)], [], []⟩
  refine SX.seq ?_
  refine SX.region ?_
  refine SXL.box rfl rfl ?_; intro b0
  refine SXL.alloc zp_27 ?_; intro b1
  refine SXL.nil ?_
  refine thenQ.normal ?_
  refine SX.seq ?_
  refine SX.region ?_
  refine SXL.loadNo 0 sh_27 rfl rfl rfl ?_
  refine SXL.callF (SpR s) fn_17 rfl (fun w hI => twin_any s bo ro bc rc hb hr w (hs.inv hI)) ?_; rintro _ _ ⟨r1, r2, o1, o2, rfl, rfl⟩
  refine SXL.alloc zp_27 ?_; intro b4
  refine SXL.store 4 sz_27 rfl rfl rfl rfl rfl rfl ?_
  refine SXL.nil ?_
  refine thenQ.normal ?_
  refine SX.seq ?_
  refine SX.region ?_
  refine SXL.fieldAddr fp_27_6 rfl ?_
  refine SXL.store 4 sz_25 rfl rfl rfl rfl rfl rfl ?_
  refine SXL.nil ?_
  refine thenQ.normal ?_
  refine SX.seq ?_
  refine SX.seq ?_
  refine SX.pad (Sl.nil.ent 54 []) rfl ?_
  refine SX.region ?_
  refine SXL.fieldAddr fp_27_6 rfl ?_
  refine SXL.load1o 0 sh_25 rfl rfl rfl ?_
  refine SXL.len is_25 rfl ?_
  refine SXL.move rfl ?_
  refine SXL.nil ?_
  refine thenQ.normal ?_
  refine SX.block ?_
  refine SX.loopG (α := Nat × Sl × Nat × List Value) [1, 4, 5, 15, 16] rfl (fun ⟨k, q, n, c⟩ => [(17, .int .i64 ((k : Int)))]) (fun ⟨k, q, n, c⟩ => [(4, (b4, .cells ⟨[.int .i64 s.weeks, .int .i64 s.most, .int .i64 s.fall, .int .i64 s.a0, .int .i64 s.a1, .int .i64 s.w0, .int .i64 s.w1, r1.val s.book.length, q.val n]⟩ 27 (0, 0))), (5, q.ent 54 c)]) (fun ⟨k, q, n, c⟩ => k ≤ s.reads.length ∧ q.Ok n 5 c ∧ c = (rdC (keepR (s.reads.take k) ns)) ∧ n = (keepR (s.reads.take k) ns).length) (fun ⟨k, q, n, c⟩ => s.reads.length - k) (0, Sl.nil, 0, []) ⟨Nat.zero_le _, .none _, rfl, rfl⟩ ⟨rfl, trivial⟩ rfl ?_
  rintro ⟨k, q, n, c⟩ ⟨hkl, ho, rfl, hn2⟩
  have hkl2 := keepR_len (s.reads.take k) ns
  rw [List.length_take] at hkl2
  refine SX.seq ?_
  refine SX.region ?_
  refine SXL.lss rfl rfl ?_
  refine SXL.nil ?_
  refine thenQ.normal ?_
  refine SX.seq ?_
  refine SX.condP rfl (fun c1 => ?_) (fun c1 => ?_)
  · refine SX.skip ?_
    refine thenQ.normal ?_
    refine SX.seq ?_
    refine SX.block ?_
    refine SX.seq ?_
    have hk : k < s.reads.length := by omega
    obtain ⟨b, o, ha, hm⟩ := hs.readD hk
    refine SX.region ?_
    refine SXL.indexR el_25 rfl rfl ha (by omega) ?_
    refine SXL.loadN sh_54 rfl (hm _) rfl ?_
    refine SXL.alloc zp_54 ?_; intro b6
    refine SXL.store 6 sz_54 rfl rfl rfl rfl rfl rfl ?_
    refine SXL.nil ?_
    refine thenQ.normal ?_
    refine SX.seq ?_
    refine SX.region ?_
    refine SXL.assign rfl ?_
    refine SXL.nil ?_
    refine thenQ.normal ?_
    refine SX.seq ?_
    refine SX.seq ?_
    refine SX.region ?_
    refine SXL.move rfl ?_
    refine SXL.len is_35 rfl ?_
    refine SXL.move rfl ?_
    refine SXL.nil ?_
    refine thenQ.normal ?_
    refine SX.block ?_
    refine SX.loopG (α := Nat) [1, 4, 5, 7, 15, 16, 17, 21, 22] rfl (fun j => [(23, .int .i64 ((j : Int))), (8, .bool (decide ((s.reads.getD k default).num ∈ ns.take j)))]) (fun j => []) (fun j => j ≤ ns.length) (fun j => ns.length - j) 0 (Nat.zero_le _) ⟨rfl, congrArg (fun z => some (Value.bool z)) (decide_eq_false (by simp)).symm, trivial⟩ rfl ?_
    rintro j hj
    refine SX.seq ?_
    refine SX.region ?_
    refine SXL.lss rfl rfl ?_
    refine SXL.nil ?_
    refine thenQ.normal ?_
    refine SX.seq ?_
    refine SX.condP rfl (fun c2 => ?_) (fun c2 => ?_)
    · refine SX.skip ?_
      refine thenQ.normal ?_
      refine SX.seq ?_
      refine SX.block ?_
      refine SX.seq ?_
      have hjl : j < ns.length := by omega
      obtain ⟨b2, o2, ha2, hm2⟩ := oneI ha0 hjl
      refine SX.region ?_
      refine SXL.indexR el_35 rfl rfl ha2 (by omega) ?_
      refine SXL.load1 sh_3 rfl (hm2 _) ?_
      refine SXL.assign rfl ?_
      refine SXL.nil ?_
      refine thenQ.normal ?_
      refine SX.region ?_
      refine SXL.move rfl ?_
      refine SXL.move rfl ?_
      apply SXL.orG 4
      case hl => exact rfl
      case hd => exact rfl
      case hg => exact rfl
      case ht =>
        intro g3
        refine SXL.pass rfl rfl rfl ?_
        refine SXL.pass rfl rfl rfl ?_
        refine SXL.pass rfl rfl rfl ?_
        refine SXL.pass rfl rfl rfl ?_
        exact SXL.nil (segQ.mk (.skip rfl (.skip rfl (.skip rfl (.skip rfl (.skip rfl (EnvSub.refl _)))))) rfl rfl rfl)
      case hf =>
        intro g3
        refine SXL.move rfl ?_
        refine SXL.fieldAddr fp_54_0 rfl ?_
        refine SXL.load1o 6 sh_3 rfl rfl rfl ?_
        refine SXL.eqlI rfl rfl ?_
        exact SXL.nil (segQ.mk (.skip rfl (.skip rfl (.skip rfl (.skip rfl (.skip rfl (EnvSub.refl _)))))) rfl rfl ⟨rfl, rfl⟩)
      refine SXL.assign rfl ?_
      refine SXL.nil ?_
      refine blockQ.normal ?_
      refine thenQ.normal ?_
      refine SX.region ?_
      refine SXL.add rfl rfl (by omega) ?_
      refine SXL.move rfl ?_
      refine SXL.nil ?_
      refine thenQ.normal ?_
      refine ⟨j + 1, Meets.mk _ ⟨rfl, congrArg (fun z => some (Value.bool z)) (decide_eq_decide.2 (mem_take_succ hjl).symm), trivial⟩ ⟨rfl, rfl, rfl, rfl, rfl, rfl, rfl, rfl, rfl, trivial⟩ rfl, (by omega), (by omega)⟩
    · refine SX.exit ?_
      refine thenQ.exit ?_
      refine thenQ.exit ?_
      refine blockQ.exit ?_
      refine thenQ.normal ?_
      refine SX.seq ?_
      obtain rfl : j = ns.length := by omega
      refine SX.region ?_
      refine SXL.move rfl ?_
      refine SXL.not rfl ?_
      refine SXL.nil ?_
      refine thenQ.normal ?_
      refine SX.condP rfl (fun c36 => ?_) (fun c36 => ?_)
      · refine SX.region ?_
        refine SXL.fieldAddr fp_27_6 rfl ?_
        refine SXL.load1o 4 sh_25 rfl rfl rfl ?_
        refine SXL.loadNo 6 sh_54 rfl rfl rfl ?_
        refine SXL.buildSlice et_25 zp_54 rfl rfl rfl rfl ?_; intro b7
        refine SXL.append 5 ap_25 rfl rfl ho rfl (.inr ⟨_, _, rfl, Mem.own (i := 7) rfl (takeAt_all _)⟩) rfl rfl ⟨by simp only [maxLen]; omega, by omega⟩ ?_; intro r_41 o_41
        refine SXL.fieldAddr fp_27_6 rfl ?_
        refine SXL.store 4 sz_25 rfl rfl rfl rfl rfl rfl ?_
        refine SXL.nil ?_
        refine blockQ.normal ?_
        refine thenQ.normal ?_
        refine SX.region ?_
        refine SXL.add rfl rfl (by omega) ?_
        refine SXL.move rfl ?_
        refine SXL.nil ?_
        refine thenQ.normal ?_
        refine ⟨(k + 1, _, _, _), Meets.mk _ ⟨rfl, trivial⟩ ⟨rfl, rfl, rfl, rfl, rfl, trivial⟩ rfl, ?_, (show s.reads.length - (k + 1) < s.reads.length - k by omega)⟩
        first
          | exact ⟨by omega, o_41, by rw [keepR_yes hk (by rwa [List.take_length] at c36)]; simp [rdC, Rd.cells], by rw [keepR_yes hk (by rwa [List.take_length] at c36)]; simp [hn2]⟩
          | exact ⟨by omega, ho, by rw [keepR_no hk (by have h := Decidable.not_not.1 c36; rwa [List.take_length] at h)], by rw [keepR_no hk (by have h := Decidable.not_not.1 c36; rwa [List.take_length] at h)]; exact hn2⟩
      · refine SX.skip ?_
        refine blockQ.normal ?_
        refine thenQ.normal ?_
        refine SX.region ?_
        refine SXL.add rfl rfl (by omega) ?_
        refine SXL.move rfl ?_
        refine SXL.nil ?_
        refine thenQ.normal ?_
        refine ⟨(k + 1, _, _, _), Meets.mk _ ⟨rfl, trivial⟩ ⟨rfl, rfl, rfl, rfl, rfl, trivial⟩ rfl, ?_, (show s.reads.length - (k + 1) < s.reads.length - k by omega)⟩
        first
          | exact ⟨by omega, o_41, by rw [keepR_yes hk (by rwa [List.take_length] at c36)]; simp [rdC, Rd.cells], by rw [keepR_yes hk (by rwa [List.take_length] at c36)]; simp [hn2]⟩
          | exact ⟨by omega, ho, by rw [keepR_no hk (by have h := Decidable.not_not.1 c36; rwa [List.take_length] at h)], by rw [keepR_no hk (by have h := Decidable.not_not.1 c36; rwa [List.take_length] at h)]; exact hn2⟩
  · refine SX.exit ?_
    refine thenQ.exit ?_
    refine thenQ.exit ?_
    refine blockQ.exit ?_
    refine thenQ.normal ?_
    refine SX.seq ?_
    obtain rfl : k = s.reads.length := by omega
    refine SX.region ?_
    refine SXL.loadNo 4 sh_27 rfl rfl rfl ?_
    refine SXL.store 1 sz_27 rfl rfl rfl rfl rfl rfl ?_
    refine SXL.nil ?_
    refine thenQ.normal ?_
    refine SX.ret ?_
    refine retQ.sel [2, 5] rfl rfl ?_
    refine retQ.one (ResAt.cellNo 1 sh_27 rfl rfl rfl) ?_
    rw [List.take_length] at ho hn2; subst hn2; exact ⟨r1, q, o1, ho, rfl, by rw [List.take_length]; rfl⟩
set_option maxHeartbeats 2000000 in
theorem swithout_any (s : Sp) (bo ro : Option Addr) (bc rc : Nat) (ns : List Int) (ao : Option Addr) (nc : Nat) (hn : ns.length ≤ 1000000) (hb : s.book.length ≤ 1000000) (hr : s.reads.length ≤ 1000000) (hd : (numsL s).Nodup) (w : World) (hs : SpAt w s bo ro) (ha0 : RowsAt w ao 1 (ones ns)) :
    CallsR Tryd.prog 84 [.agg ⟨[.int .i64 s.weeks, .int .i64 s.most, .int .i64 s.fall, .int .i64 s.a0, .int .i64 s.a1, .int .i64 s.w0, .int .i64 s.w1, (.slice bo s.book.length bc), (.slice ro s.reads.length rc)]⟩, .slice ao ns.length nc] w (SpR (wo s ns)) := by
  refine CallsR.of_SX (n := 47) (rs := [.cell 4 27]) Tryd.func84 rfl rfl rfl rfl ?_
  show SX _ _ _ ⟨[(0, .agg ⟨[.int .i64 s.weeks, .int .i64 s.most, .int .i64 s.fall, .int .i64 s.a0, .int .i64 s.a1, .int .i64 s.w0, .int .i64 s.w1, (.slice bo s.book.length bc), (.slice ro s.reads.length rc)]⟩), (1, .slice ao ns.length nc)], [], []⟩
  refine SX.seq ?_
  refine SX.region ?_
  refine SXL.box rfl rfl ?_; intro b0
  refine SXL.alloc zp_27 ?_; intro b1
  refine SXL.nil ?_
  refine thenQ.normal ?_
  refine SX.seq ?_
  refine SX.region ?_
  refine SXL.makeMap ?_; intro b2
  refine SXL.assign rfl ?_
  refine SXL.nil ?_
  refine thenQ.normal ?_
  refine SX.seq ?_
  refine SX.seq ?_
  refine SX.region ?_
  refine SXL.move rfl ?_
  refine SXL.len is_35 rfl ?_
  refine SXL.move rfl ?_
  refine SXL.nil ?_
  refine thenQ.normal ?_
  refine SX.block ?_
  refine SX.loopG (α := Nat × List (Int × Nat) × Nat) [2, 4, 5, 12, 13] rfl (fun ⟨j, ks, mc⟩ => [(14, .int .i64 ((j : Int)))]) (fun ⟨j, ks, mc⟩ => [(2, (b2, .map ⟨mkMap ks⟩ mc))]) (fun ⟨j, ks, mc⟩ => j ≤ ns.length ∧ (mkeys ks).Nodup ∧ ∀ x, x ∈ mkeys ks ↔ x ∈ ns.take j) (fun ⟨j, ks, mc⟩ => ns.length - j) (0, [], 0) ⟨Nat.zero_le _, List.nodup_nil, fun x => by simp [mkeys]⟩ ⟨rfl, trivial⟩ rfl ?_
  rintro ⟨j, ks, mc⟩ ⟨hj, hnd, hks⟩
  refine SX.seq ?_
  refine SX.region ?_
  refine SXL.lss rfl rfl ?_
  refine SXL.nil ?_
  refine thenQ.normal ?_
  refine SX.seq ?_
  refine SX.condP rfl (fun c1 => ?_) (fun c1 => ?_)
  · refine SX.skip ?_
    refine thenQ.normal ?_
    refine SX.seq ?_
    refine SX.block ?_
    refine SX.seq ?_
    have hjl : j < ns.length := by omega
    obtain ⟨b3, o3, ha2, hm2⟩ := oneI ha0 hjl
    refine SX.region ?_
    refine SXL.indexR el_35 rfl rfl ha2 (by omega) ?_
    refine SXL.load1 sh_3 rfl (hm2 _) ?_
    refine SXL.assign rfl ?_
    refine SXL.nil ?_
    refine thenQ.normal ?_
    refine SX.region ?_
    refine SXL.move rfl ?_
    refine SXL.move rfl ?_
    refine SXL.mapPut 2 mk_173 rfl rfl rfl rfl ?_
    refine SXL.nil ?_
    refine blockQ.normal ?_
    refine thenQ.normal ?_
    refine SX.region ?_
    refine SXL.add rfl rfl (by omega) ?_
    refine SXL.move rfl ?_
    refine SXL.nil ?_
    refine thenQ.normal ?_
    refine ⟨(j + 1, _, _), Meets.mk _ ⟨rfl, trivial⟩ ⟨rfl, rfl, rfl, rfl, rfl, trivial⟩ rfl, ⟨by omega, mput_nodup hnd, fun x => by rw [mput_keys, hks, mem_take_succ hjl, or_comm, eq_comm]⟩, (show ns.length - (j + 1) < ns.length - j by omega)⟩
  · refine SX.exit ?_
    refine thenQ.exit ?_
    refine thenQ.exit ?_
    refine blockQ.exit ?_
    refine thenQ.normal ?_
    refine SX.seq ?_
    obtain rfl : j = ns.length := by omega
    refine SX.region ?_
    refine SXL.fieldAddr fp_27_5 rfl ?_
    refine SXL.load1o 0 sh_24 rfl rfl rfl ?_
    refine SXL.callF (IsB s) fn_122 rfl (fun w hI => cloneLines s bo bc hb w (hs.inv hI).book) ?_; rintro _ _ ⟨r1, o1, rfl, rfl⟩
    refine SXL.fieldAddr fp_27_5 rfl ?_
    refine SXL.store 0 sz_24 rfl rfl rfl rfl rfl rfl ?_
    refine SXL.nil ?_
    refine thenQ.normal ?_
    refine SX.seq ?_
    refine SX.pad (Sl.nil.ent 54 []) rfl ?_
    refine SX.region ?_
    refine SXL.assign rfl ?_
    refine SXL.nil ?_
    refine thenQ.normal ?_
    refine SX.seq ?_
    refine SX.seq ?_
    refine SX.region ?_
    refine SXL.fieldAddr fp_27_6 rfl ?_
    refine SXL.load1o 0 sh_25 rfl rfl rfl ?_
    refine SXL.len is_25 rfl ?_
    refine SXL.move rfl ?_
    refine SXL.nil ?_
    refine thenQ.normal ?_
    refine SX.block ?_
    refine SX.loopG (α := Nat × List (Int × Nat) × Nat × Sl × Nat × List Value) [2, 4, 5, 26, 27] rfl (fun ⟨k, ks, mc, q, n, c⟩ => [(28, .int .i64 ((k : Int))), (8, q.val n)]) (fun ⟨k, ks, mc, q, n, c⟩ => [(2, (b2, .map ⟨mkMap ks⟩ mc)), (4, q.ent 54 c)]) (fun ⟨k, ks, mc, q, n, c⟩ => k ≤ s.reads.length ∧ (mkeys ks).Nodup ∧ (∀ x, x ∈ mkeys ks ↔ x ∈ ns ∧ ∀ i, i < k → (s.reads.getD i default).num ≠ x) ∧ q.Ok n 5 c ∧ c = (rdC (keepR (s.reads.take k) ns)) ∧ n = (keepR (s.reads.take k) ns).length) (fun ⟨k, ks, mc, q, n, c⟩ => s.reads.length - k) (0, ks, mc, Sl.nil, 0, []) ⟨Nat.zero_le _, hnd, fun x => by rw [hks, List.take_length]; exact ⟨fun h => ⟨h, fun i hi => absurd hi (Nat.not_lt_zero _)⟩, fun h => h.1⟩, .none _, rfl, rfl⟩ ⟨rfl, rfl, trivial⟩ rfl ?_
    rintro ⟨k, ks2, mc2, q, n, c⟩ ⟨hkl, hnd2, hks2, ho, rfl, hn2⟩
    have hkl2 := keepR_len (s.reads.take k) ns
    rw [List.length_take] at hkl2
    refine SX.seq ?_
    refine SX.region ?_
    refine SXL.lss rfl rfl ?_
    refine SXL.nil ?_
    refine thenQ.normal ?_
    refine SX.seq ?_
    refine SX.condP rfl (fun c2 => ?_) (fun c2 => ?_)
    · refine SX.skip ?_
      refine thenQ.normal ?_
      refine SX.seq ?_
      refine SX.block ?_
      refine SX.seq ?_
      have hk : k < s.reads.length := by omega
      obtain ⟨b, o, ha, hm⟩ := hs.readD hk
      refine SX.region ?_
      refine SXL.indexR el_25 rfl rfl ha (by omega) ?_
      refine SXL.loadN sh_54 rfl (hm _) rfl ?_
      refine SXL.alloc zp_54 ?_; intro b5
      refine SXL.store 5 sz_54 rfl rfl rfl rfl rfl rfl ?_
      refine SXL.nil ?_
      refine thenQ.normal ?_
      refine SX.seq ?_
      refine SX.seq ?_
      refine SX.region ?_
      refine SXL.move rfl ?_
      refine SXL.fieldAddr fp_54_0 rfl ?_
      refine SXL.load1o 5 sh_3 rfl rfl rfl ?_
      refine SXL.mapGet 2 mk_173 rfl rfl rfl ?_
      refine SXL.nil ?_
      refine thenQ.normal ?_
      refine SX.condP rfl (fun c35 => ?_) (fun c35 => ?_)
      · refine SX.seq ?_
        refine SX.region ?_
        refine SXL.move rfl ?_
        refine SXL.fieldAddr fp_54_0 rfl ?_
        refine SXL.load1o 5 sh_3 rfl rfl rfl ?_
        refine SXL.mapDel 2 mk_173 rfl rfl rfl rfl ?_
        refine SXL.nil ?_
        refine thenQ.normal ?_
        refine SX.exit ?_
        refine thenQ.exit ?_
        refine blockQ.exit ?_
        refine thenQ.normal ?_
        refine SX.region ?_
        refine SXL.add rfl rfl (by omega) ?_
        refine SXL.move rfl ?_
        refine SXL.nil ?_
        refine thenQ.normal ?_
        refine ⟨(k + 1, _, _, _, _, _), Meets.mk _ ⟨rfl, rfl, trivial⟩ ⟨rfl, rfl, rfl, rfl, rfl, trivial⟩ rfl, ?_, (show s.reads.length - (k + 1) < s.reads.length - k by omega)⟩
        have hin := gone_iff hd hk hks2
        first
          | exact ⟨by omega, mdel_nodup hnd2, gone_del hnd2 hk hks2, ho, by rw [keepR_no hk (hin.1 c35)], by rw [keepR_no hk (hin.1 c35)]; exact hn2⟩
          | exact ⟨by omega, hnd2, gone_stay hk (fun h => c35 (hin.2 h)) hks2, o_42, by rw [keepR_yes hk (fun h => c35 (hin.2 h))]; simp [rdC, Rd.cells], by rw [keepR_yes hk (fun h => c35 (hin.2 h))]; simp [hn2]⟩
      · refine SX.skip ?_
        refine thenQ.normal ?_
        refine SX.region ?_
        refine SXL.move rfl ?_
        refine SXL.loadNo 5 sh_54 rfl rfl rfl ?_
        refine SXL.buildSlice et_25 zp_54 rfl rfl rfl rfl ?_; intro b6
        refine SXL.append 4 ap_25 rfl rfl ho rfl (.inr ⟨_, _, rfl, Mem.own (i := 6) rfl (takeAt_all _)⟩) rfl rfl ⟨by simp only [maxLen]; omega, by omega⟩ ?_; intro r_42 o_42
        refine SXL.assign rfl ?_
        refine SXL.nil ?_
        refine blockQ.normal ?_
        refine thenQ.normal ?_
        refine SX.region ?_
        refine SXL.add rfl rfl (by omega) ?_
        refine SXL.move rfl ?_
        refine SXL.nil ?_
        refine thenQ.normal ?_
        refine ⟨(k + 1, _, _, _, _, _), Meets.mk _ ⟨rfl, rfl, trivial⟩ ⟨rfl, rfl, rfl, rfl, rfl, trivial⟩ rfl, ?_, (show s.reads.length - (k + 1) < s.reads.length - k by omega)⟩
        have hin := gone_iff hd hk hks2
        first
          | exact ⟨by omega, mdel_nodup hnd2, gone_del hnd2 hk hks2, ho, by rw [keepR_no hk (hin.1 c35)], by rw [keepR_no hk (hin.1 c35)]; exact hn2⟩
          | exact ⟨by omega, hnd2, gone_stay hk (fun h => c35 (hin.2 h)) hks2, o_42, by rw [keepR_yes hk (fun h => c35 (hin.2 h))]; simp [rdC, Rd.cells], by rw [keepR_yes hk (fun h => c35 (hin.2 h))]; simp [hn2]⟩
    · refine SX.exit ?_
      refine thenQ.exit ?_
      refine thenQ.exit ?_
      refine blockQ.exit ?_
      refine thenQ.normal ?_
      refine SX.seq ?_
      obtain rfl : k = s.reads.length := by omega
      refine SX.region ?_
      refine SXL.move rfl ?_
      refine SXL.fieldAddr fp_27_6 rfl ?_
      refine SXL.store 0 sz_25 rfl rfl rfl rfl rfl rfl ?_
      refine SXL.nil ?_
      refine thenQ.normal ?_
      refine SX.seq ?_
      refine SX.region ?_
      refine SXL.loadNo 0 sh_27 rfl rfl rfl ?_
      refine SXL.store 1 sz_27 rfl rfl rfl rfl rfl rfl ?_
      refine SXL.nil ?_
      refine thenQ.normal ?_
      refine SX.ret ?_
      refine retQ.sel [3, 4] rfl rfl ?_
      refine retQ.one (ResAt.cellNo 1 sh_27 rfl rfl rfl) ?_
      rw [List.take_length] at ho hn2; subst hn2; exact ⟨r1, q, o1, ho, rfl, by rw [List.take_length]; rfl⟩
end Go.Proofs.YtknflipongbngaaDoor

/- What a reading tells alone: the plain words. Nothing of Go stands here. -/
namespace Go.S
open Go.X (G)
def readE (s : Sp) (x : Rd) : Int := if ¬SpP s then 10 else if ¬RdP x s.weeks then 12 else if readsP s x = (1, 0) then 6 else 0
def readLo (s : Sp) (x : Rd) : Int := if readE s x = 0 then (readsP s x).1 else 0
def readHi (s : Sp) (x : Rd) : Int := if readE s x = 0 then (readsP s x).2 else 0
def rTo (s : Sp) (x : Rd) : Nat → Int × Int
  | 0 => (s.most + 1, -1)
  | k + 1 => if Right s x k then (min (rTo s x k).1 k, k) else rTo s x k
theorem bothP_or (a b c d : Int) : bothP a b c d = (1, 0) ∨ (c ≤ (bothP a b c d).1 ∧ (bothP a b c d).1 ≤ (bothP a b c d).2 ∧ (bothP a b c d).2 ≤ d) := by
  unfold bothP
  split
  · exact .inl rfl
  · refine .inr ?_
    simp only
    omega
theorem readsP_or (s : Sp) (x : Rd) : readsP s x = (1, 0) ∨ (0 ≤ (readsP s x).1 ∧ (readsP s x).1 ≤ (readsP s x).2 ∧ (readsP s x).2 ≤ s.most) := bothP_or _ _ _ _
theorem rTo_at {s : Sp} {x : Rd} (h1 : Spn s.a0 s.a1 1 600) (h2 : Spn x.s0 x.s1 0 99) (h3 : Wi x.bu 1 40) (h4 : 0 < x.s1) (hm : Wi s.most 0 100) : ∀ k : Nat, (k : Int) ≤ s.most + 1 →
    rTo s x k = if (readsP s x).1 ≤ (readsP s x).2 ∧ (readsP s x).1 < k then ((readsP s x).1, min (readsP s x).2 ((k : Int) - 1)) else (s.most + 1, -1)
  | 0, _ => by
    rw [rTo, if_neg]
    have := readsP_or s x
    rintro ⟨a, b⟩
    rcases this with h | h
    · rw [h] at a; simp at a
    · omega
  | k + 1, hk => by
    have ih := rTo_at h1 h2 h3 h4 hm k (by omega)
    have hr := reads_mem (s := s) (x := x) h1 h2 h3 h4 (n := (k : Int)) ⟨by omega, by omega⟩
    have hor := readsP_or s x
    rw [rTo, ih]
    clear ih
    revert hr hor
    generalize readsP s x = p
    obtain ⟨A, B⟩ := p
    intro hr hor
    have hor : (A = 1 ∧ B = 0) ∨ (0 ≤ A ∧ A ≤ B ∧ B ≤ s.most) := by simpa using hor
    simp only at hr ⊢
    by_cases hR : Right s x k
    · have := hr.2 hR
      have h5 : A ≤ B ∧ A < ((k + 1 : Nat) : Int) := by omega
      rw [if_pos hR, if_pos h5]
      by_cases hlt : A < (k : Int)
      · have h6 : A ≤ B ∧ A < (k : Int) := by omega
        rw [if_pos h6]
        refine Prod.ext ?_ ?_ <;> simp only <;> omega
      · have h6 : ¬(A ≤ B ∧ A < (k : Int)) := by omega
        rw [if_neg h6]
        refine Prod.ext ?_ ?_ <;> simp only <;> omega
    · have hn := fun h => hR (hr.1 h)
      rw [if_neg hR]
      by_cases hlt : A ≤ B ∧ A < (k : Int)
      · have h5 : A ≤ B ∧ A < ((k + 1 : Nat) : Int) := by omega
        rw [if_pos hlt, if_pos h5]
        refine Prod.ext ?_ ?_ <;> simp only
        omega
      · rw [if_neg hlt]
        by_cases h5 : A ≤ B ∧ A < ((k + 1 : Nat) : Int)
        · exfalso
          exact hn (by omega)
        · rw [if_neg h5]
theorem rTo_end {s : Sp} {x : Rd} (h1 : Spn s.a0 s.a1 1 600) (h2 : Spn x.s0 x.s1 0 99) (h3 : Wi x.bu 1 40) (h4 : 0 < x.s1) (hm : Wi s.most 0 100) {k : Nat} (hk : (k : Int) = s.most + 1) :
    ((rTo s x k).2 < 0 ↔ readsP s x = (1, 0)) ∧ (readsP s x ≠ (1, 0) → rTo s x k = readsP s x) := by
  have h := rTo_at h1 h2 h3 h4 hm k (by omega)
  have hor := readsP_or s x
  rw [h]
  rcases hor with he | he
  · rw [he]
    simp
  · have hne : readsP s x ≠ (1, 0) := by
      intro e
      rw [e] at he
      simp at he
    have e : min (readsP s x).2 ((k : Int) - 1) = (readsP s x).2 := by omega
    have h5 : (readsP s x).1 ≤ (readsP s x).2 ∧ (readsP s x).1 < (k : Int) := by omega
    rw [if_pos h5, e]
    refine ⟨⟨fun h => ?_, fun h => absurd h hne⟩, fun _ => rfl⟩
    simp only at h
    omega
end Go.S

/- The walks of functions. -/
namespace Go.Proofs.YtknflipongbngaaDoor
open Go.X Go.S Go.RowKit
set_option maxHeartbeats 1000000 in
theorem rread_any (s : Sp) (bo ro : Option Addr) (bc rc : Nat) (x : Rd) (w : World) (hs : SpAt w s bo ro) :
    CallsR Tryd.prog 31 [.agg ⟨[.int .i64 s.weeks, .int .i64 s.most, .int .i64 s.fall, .int .i64 s.a0, .int .i64 s.a1, .int .i64 s.w0, .int .i64 s.w1, (.slice bo s.book.length bc), (.slice ro s.reads.length rc)]⟩, .agg ⟨x.cells⟩] w (fun v _ => v = .tuple ⟨[.agg ⟨[.int .i64 ((readLo s x)), .int .i64 ((readHi s x))]⟩, .int .i64 (readE s x)]⟩) := by
  refine CallsR.of_SX (n := 43) (rs := [.cell 4 23, .tmp 5]) Tryd.func31 rfl rfl rfl rfl ?_
  show SX _ _ _ ⟨[(0, .agg ⟨[.int .i64 s.weeks, .int .i64 s.most, .int .i64 s.fall, .int .i64 s.a0, .int .i64 s.a1, .int .i64 s.w0, .int .i64 s.w1, (.slice bo s.book.length bc), (.slice ro s.reads.length rc)]⟩), (1, .agg ⟨x.cells⟩)], [], []⟩
  refine SX.seq ?_
  refine SX.region ?_
  refine SXL.box rfl rfl ?_; intro b0
  refine SXL.box rfl rfl ?_; intro b1
  refine SXL.alloc zp_23 ?_; intro b2
  refine SXL.assign rfl ?_
  refine SXL.nil ?_
  refine thenQ.normal ?_
  refine SX.seq ?_
  refine SX.seq ?_
  refine SX.region ?_
  refine SXL.loadNo 0 sh_27 rfl rfl rfl ?_
  refine SXL.call1 (.bool (decide (SpP s))) fn_74 rfl (fun w hI => spring_any s bo ro bc rc _ (hs.inv hI)) ?_
  refine SXL.not rfl ?_
  refine SXL.nil ?_
  refine thenQ.normal ?_
  refine SX.condP rfl (fun c10 => ?_) (fun c10 => ?_)
  · refine SX.seq ?_
    refine SX.region ?_
    refine SXL.buildS pl_23 zp_23 rfl rfl ?_
    refine SXL.store 2 sz_23 rfl rfl rfl rfl rfl rfl ?_
    refine SXL.assign rfl ?_
    refine SXL.nil ?_
    refine thenQ.normal ?_
    refine SX.ret ?_
    refine thenQ.ret ?_
    refine retQ.two (ResAt.cellNo 2 sh_23 rfl rfl rfl) (ResAt.tmp rfl) ?_
    have he : readE s x = 10 := if_pos c10
    rw [readLo, readHi, if_neg (by rw [he]; omega), if_neg (by rw [he]; omega), he]
  · refine SX.skip ?_
    refine thenQ.normal ?_
    refine SX.seq ?_
    refine SX.seq ?_
    have hv : SpP s := Decidable.not_not.1 c10
    have hH := hv.1
    unfold HeadP at hH
    refine SX.region ?_
    refine SXL.loadNo 1 sh_54 rfl rfl rfl ?_
    refine SXL.fieldAddr fp_27_0 rfl ?_
    refine SXL.load1o 0 sh_3 rfl rfl rfl ?_
    refine SXL.call1 (.bool (decide (RdP x s.weeks))) fn_71 rfl (fun w hI => reading_any x s.weeks (by omega) (by omega) _) ?_
    refine SXL.not rfl ?_
    refine SXL.nil ?_
    refine thenQ.normal ?_
    refine SX.condP rfl (fun c16 => ?_) (fun c16 => ?_)
    · refine SX.seq ?_
      refine SX.region ?_
      refine SXL.buildS pl_23 zp_23 rfl rfl ?_
      refine SXL.store 2 sz_23 rfl rfl rfl rfl rfl rfl ?_
      refine SXL.assign rfl ?_
      refine SXL.nil ?_
      refine thenQ.normal ?_
      refine SX.ret ?_
      refine thenQ.ret ?_
      refine retQ.two (ResAt.cellNo 2 sh_23 rfl rfl rfl) (ResAt.tmp rfl) ?_
      have he : readE s x = 12 := by rw [readE, if_neg (by simpa using hv), if_pos c16]
      rw [readLo, readHi, if_neg (by rw [he]; omega), if_neg (by rw [he]; omega), he]
    · refine SX.skip ?_
      refine thenQ.normal ?_
      refine SX.seq ?_
      have hx : RdP x s.weeks := Decidable.not_not.1 c16
      refine SX.region ?_
      refine SXL.fieldAddr fp_27_1 rfl ?_
      refine SXL.load1o 0 sh_3 rfl rfl rfl ?_
      refine SXL.add rfl rfl (by omega) ?_
      refine SXL.buildS pl_23 zp_23 rfl rfl ?_
      refine SXL.alloc zp_23 ?_; intro b3
      refine SXL.store 3 sz_23 rfl rfl rfl rfl rfl rfl ?_
      refine SXL.nil ?_
      refine thenQ.normal ?_
      refine SX.seq ?_
      refine SX.seq ?_
      refine SX.region ?_
      refine SXL.assign rfl ?_
      refine SXL.nil ?_
      refine thenQ.normal ?_
      refine SX.block ?_
      refine SX.loopG (α := Nat × Int × Int) [2, 3, 4, 5, 6] rfl (fun ⟨k, p⟩ => [(7, .int .i64 ((k : Int)))]) (fun ⟨k, p⟩ => [(3, (b3, .cells ⟨[.int .i64 p.1, .int .i64 p.2]⟩ 23 (0, 0)))]) (fun ⟨k, p⟩ => (k : Int) ≤ s.most + 1 ∧ p = rTo s x k) (fun ⟨k, p⟩ => (s.most + 1 - k).toNat) (0, (s.most + 1, -1)) ⟨by show ((0 : Nat) : Int) ≤ _; omega, rfl⟩ ⟨rfl, trivial⟩ rfl ?_
      rintro ⟨k, p⟩ ⟨hkl, hp⟩
      refine SX.seq ?_
      refine SX.seq ?_
      refine SX.region ?_
      refine SXL.move rfl ?_
      refine SXL.fieldAddr fp_27_1 rfl ?_
      refine SXL.load1o 0 sh_3 rfl rfl rfl ?_
      refine SXL.leq rfl rfl ?_
      refine SXL.nil ?_
      refine thenQ.normal ?_
      refine SX.condP rfl (fun c25 => ?_) (fun c25 => ?_)
      · refine SX.skip ?_
        refine thenQ.normal ?_
        refine SX.seq ?_
        refine SX.block ?_
        refine SX.seq ?_
        have hkm : (k : Int) ≤ s.most := by omega
        refine SX.region ?_
        refine SXL.loadNo 0 sh_27 rfl rfl rfl ?_
        refine SXL.loadNo 1 sh_54 rfl rfl rfl ?_
        refine SXL.move rfl ?_
        refine SXL.call1 (.bool (decide (Right s x (k : Int)))) fn_82 rfl (fun w hI => right_any s bo ro bc rc x (k : Int) (by omega) (by omega) (by omega) (by omega) _) ?_
        refine SXL.nil ?_
        refine thenQ.normal ?_
        refine SX.condP rfl (fun c31 => ?_) (fun c31 => ?_)
        · refine SX.region ?_
          refine SXL.fieldAddr fp_23_0 rfl ?_
          refine SXL.load1o 3 sh_3 rfl rfl rfl ?_
          refine SXL.move rfl ?_
          refine SXL.min rfl rfl ?_
          refine SXL.move rfl ?_
          refine SXL.buildS pl_23 zp_23 rfl rfl ?_
          refine SXL.store 3 sz_23 rfl rfl rfl rfl rfl rfl ?_
          refine SXL.nil ?_
          refine blockQ.normal ?_
          refine thenQ.normal ?_
          refine SX.region ?_
          refine SXL.move rfl ?_
          refine SXL.add rfl rfl (by omega) ?_
          refine SXL.assign rfl ?_
          refine SXL.nil ?_
          refine thenQ.normal ?_
          refine ⟨(k + 1, (_, _)), Meets.mk _ ⟨rfl, trivial⟩ ⟨rfl, rfl, rfl, rfl, rfl, trivial⟩ rfl, ?_, (by show (s.most + 1 - ((k + 1 : Nat) : Int)).toNat < (s.most + 1 - (k : Int)).toNat; omega)⟩
          first
            | exact ⟨by show ((k + 1 : Nat) : Int) ≤ _; omega, by rw [rTo, if_pos c31, ← hp]⟩
            | exact ⟨by show ((k + 1 : Nat) : Int) ≤ _; omega, by rw [rTo, if_neg c31, ← hp]⟩
        · refine SX.skip ?_
          refine blockQ.normal ?_
          refine thenQ.normal ?_
          refine SX.region ?_
          refine SXL.move rfl ?_
          refine SXL.add rfl rfl (by omega) ?_
          refine SXL.assign rfl ?_
          refine SXL.nil ?_
          refine thenQ.normal ?_
          refine ⟨(k + 1, (_, _)), Meets.mk _ ⟨rfl, trivial⟩ ⟨rfl, rfl, rfl, rfl, rfl, trivial⟩ rfl, ?_, (by show (s.most + 1 - ((k + 1 : Nat) : Int)).toNat < (s.most + 1 - (k : Int)).toNat; omega)⟩
          first
            | exact ⟨by show ((k + 1 : Nat) : Int) ≤ _; omega, by rw [rTo, if_pos c31, ← hp]⟩
            | exact ⟨by show ((k + 1 : Nat) : Int) ≤ _; omega, by rw [rTo, if_neg c31, ← hp]⟩
      · refine SX.exit ?_
        refine thenQ.exit ?_
        refine thenQ.exit ?_
        refine blockQ.exit ?_
        refine thenQ.normal ?_
        refine SX.seq ?_
        refine SX.seq ?_
        have hke : (k : Int) = s.most + 1 := by omega
        obtain ⟨hr1, hr2⟩ := rTo_end (s := s) (x := x) (by omega) (by omega) (by omega) (by omega) (by omega) hke
        refine SX.region ?_
        refine SXL.fieldAddr fp_23_1 rfl ?_
        refine SXL.load1o 3 sh_3 rfl rfl rfl ?_
        refine SXL.lss rfl rfl ?_
        refine SXL.nil ?_
        refine thenQ.normal ?_
        refine SX.condP rfl (fun c40 => ?_) (fun c40 => ?_)
        · refine SX.seq ?_
          refine SX.region ?_
          refine SXL.buildS pl_23 zp_23 rfl rfl ?_
          refine SXL.store 2 sz_23 rfl rfl rfl rfl rfl rfl ?_
          refine SXL.assign rfl ?_
          refine SXL.nil ?_
          refine thenQ.normal ?_
          refine SX.ret ?_
          refine thenQ.ret ?_
          refine retQ.two (ResAt.cellNo 2 sh_23 rfl rfl rfl) (ResAt.tmp rfl) ?_
          have he : readE s x = 6 := by rw [readE, if_neg (by simpa using hv), if_neg (not_not_intro hx), if_pos (hr1.1 (hp ▸ c40))]
          rw [readLo, readHi, if_neg (by rw [he]; omega), if_neg (by rw [he]; omega), he]
        · refine SX.skip ?_
          refine thenQ.normal ?_
          refine SX.seq ?_
          refine SX.region ?_
          refine SXL.loadNo 3 sh_23 rfl rfl rfl ?_
          refine SXL.store 2 sz_23 rfl rfl rfl rfl rfl rfl ?_
          refine SXL.assign rfl ?_
          refine SXL.nil ?_
          refine thenQ.normal ?_
          refine SX.ret ?_
          refine retQ.two (ResAt.cellNo 2 sh_23 rfl rfl rfl) (ResAt.tmp rfl) ?_
          have hne : readsP s x ≠ (1, 0) := fun e => c40 (hp ▸ hr1.2 e)
          have he : readE s x = 0 := by rw [readE, if_neg (by simpa using hv), if_neg (not_not_intro hx), if_neg hne]
          rw [readLo, readHi, if_pos he, if_pos he, he, ← hr2 hne, ← hp]
set_option maxHeartbeats 1000000 in
theorem sread_any (s : Sp) (bo ro : Option Addr) (bc rc : Nat) (x : Rd) (hb : s.book.length ≤ 1000000) (hr : s.reads.length ≤ 1000000) (w : World) (hg : Gl w) (hs : SpAt w s bo ro) :
    CallsR Tryd.prog 30 [.agg ⟨[.int .i64 s.weeks, .int .i64 s.most, .int .i64 s.fall, .int .i64 s.a0, .int .i64 s.a1, .int .i64 s.w0, .int .i64 s.w1, (.slice bo s.book.length bc), (.slice ro s.reads.length rc)]⟩, .agg ⟨x.cells⟩] w (fun v _ => v = .tuple ⟨[.agg ⟨[.int .i64 ((readLo s x)), .int .i64 ((readHi s x))]⟩, .int .i64 (readE s x)]⟩) := by
  refine CallsR.of_SX (n := 28) (rs := [.cell 4 23, .tmp 5]) Tryd.func30 rfl rfl rfl rfl ?_
  show SX _ _ _ ⟨[(0, .agg ⟨[.int .i64 s.weeks, .int .i64 s.most, .int .i64 s.fall, .int .i64 s.a0, .int .i64 s.a1, .int .i64 s.w0, .int .i64 s.w1, (.slice bo s.book.length bc), (.slice ro s.reads.length rc)]⟩), (1, .agg ⟨x.cells⟩)], [], []⟩
  refine SX.seq ?_
  refine SX.region ?_
  refine SXL.box rfl rfl ?_; intro b0
  refine SXL.box rfl rfl ?_; intro b1
  refine SXL.alloc zp_23 ?_; intro b2
  refine SXL.assign rfl ?_
  refine SXL.nil ?_
  refine thenQ.normal ?_
  refine SX.seq ?_
  refine SX.seq ?_
  refine SX.region ?_
  refine SXL.loadNo 0 sh_27 rfl rfl rfl ?_
  refine SXL.call1 (.int .i64 (if SpP s then 0 else 10)) fn_26 rfl (fun w hI => scheck_any s bo ro bc rc hb hr _ (hg.inv hI) (hs.inv hI)) ?_
  refine SXL.assign rfl ?_
  refine SXL.nil ?_
  refine thenQ.normal ?_
  refine SX.seq ?_
  refine SX.region ?_
  refine SXL.move rfl ?_
  refine SXL.neqI rfl rfl ?_
  refine SXL.nil ?_
  refine thenQ.normal ?_
  refine SX.condP rfl (fun c11 => ?_) (fun c11 => ?_)
  · refine SX.seq ?_
    have hv : ¬SpP s := fun h => c11 (by rw [if_pos h])
    refine SX.region ?_
    refine SXL.buildS pl_23 zp_23 rfl rfl ?_
    refine SXL.move rfl ?_
    refine SXL.store 2 sz_23 rfl rfl rfl rfl rfl rfl ?_
    refine SXL.assign rfl ?_
    refine SXL.nil ?_
    refine thenQ.normal ?_
    refine SX.ret ?_
    refine thenQ.ret ?_
    refine retQ.two (ResAt.cellNo 2 sh_23 rfl rfl rfl) (ResAt.tmp rfl) ?_
    have he : readE s x = 10 := if_pos hv
    rw [if_neg hv]
    rw [readLo, readHi, if_neg (by rw [he]; omega), if_neg (by rw [he]; omega), he]
  · refine SX.skip ?_
    refine thenQ.normal ?_
    refine SX.seq ?_
    refine SX.seq ?_
    have hv : SpP s := Decidable.byContradiction fun h => c11 (by rw [if_neg h]; omega)
    have hH := hv.1
    unfold HeadP at hH
    refine SX.region ?_
    refine SXL.loadNo 1 sh_54 rfl rfl rfl ?_
    refine SXL.fieldAddr fp_27_0 rfl ?_
    refine SXL.load1o 0 sh_3 rfl rfl rfl ?_
    refine SXL.call1 (.bool (decide (RdP x s.weeks))) fn_80 rfl (fun w hI => readable_any x s.weeks ⟨by omega, by omega⟩ _) ?_
    refine SXL.not rfl ?_
    refine SXL.nil ?_
    refine thenQ.normal ?_
    refine SX.condP rfl (fun c18 => ?_) (fun c18 => ?_)
    · refine SX.seq ?_
      refine SX.region ?_
      refine SXL.buildS pl_23 zp_23 rfl rfl ?_
      refine SXL.store 2 sz_23 rfl rfl rfl rfl rfl rfl ?_
      refine SXL.assign rfl ?_
      refine SXL.nil ?_
      refine thenQ.normal ?_
      refine SX.ret ?_
      refine thenQ.ret ?_
      refine retQ.two (ResAt.cellNo 2 sh_23 rfl rfl rfl) (ResAt.tmp rfl) ?_
      have he : readE s x = 12 := by rw [readE, if_neg (by simpa using hv), if_pos c18]
      rw [readLo, readHi, if_neg (by rw [he]; omega), if_neg (by rw [he]; omega), he]
    · refine SX.skip ?_
      refine thenQ.normal ?_
      refine SX.seq ?_
      have hx : RdP x s.weeks := Decidable.not_not.1 c18
      refine SX.region ?_
      refine SXL.loadNo 0 sh_27 rfl rfl rfl ?_
      refine SXL.loadNo 1 sh_54 rfl rfl rfl ?_
      refine SXL.call1 (spanV (readsP s x)) fn_81 rfl (fun w hI => reads_any s bo ro bc rc x (by omega) (by omega) (by omega) (by omega) (by omega) _ (hg.inv hI)) ?_
      refine SXL.alloc zp_23 ?_; intro b3
      refine SXL.store 3 sz_23 rfl rfl rfl rfl rfl rfl ?_
      refine SXL.nil ?_
      refine thenQ.normal ?_
      refine SX.seq ?_
      refine SX.seq ?_
      refine SX.region ?_
      refine SXL.loadNo 3 sh_23 rfl rfl rfl ?_
      refine SXL.loadN sh_23 rfl (hg.memN _) rfl ?_
      refine SXL.eqlV (p := [(readsP s x).1, (readsP s x).2] = [1, 0]) (u := .agg ⟨ints ([(readsP s x).1, (readsP s x).2])⟩) (v := .agg ⟨ints ([1, 0])⟩) rfl rfl (run_eql_ints eq_23 eg_23 sh_23 rfl rfl) ?_
      refine SXL.nil ?_
      refine thenQ.normal ?_
      refine SX.condP rfl (fun c25 => ?_) (fun c25 => ?_)
      · refine SX.seq ?_
        refine SX.region ?_
        refine SXL.buildS pl_23 zp_23 rfl rfl ?_
        refine SXL.store 2 sz_23 rfl rfl rfl rfl rfl rfl ?_
        refine SXL.assign rfl ?_
        refine SXL.nil ?_
        refine thenQ.normal ?_
        refine SX.ret ?_
        refine thenQ.ret ?_
        refine retQ.two (ResAt.cellNo 2 sh_23 rfl rfl rfl) (ResAt.tmp rfl) ?_
        have hpe : readsP s x = (1, 0) := by simpa [Prod.ext_iff] using c25
        have he : readE s x = 6 := by rw [readE, if_neg (by simpa using hv), if_neg (not_not_intro hx), if_pos hpe]
        rw [readLo, readHi, if_neg (by rw [he]; omega), if_neg (by rw [he]; omega), he]
      · refine SX.skip ?_
        refine thenQ.normal ?_
        refine SX.seq ?_
        refine SX.region ?_
        refine SXL.loadNo 3 sh_23 rfl rfl rfl ?_
        refine SXL.store 2 sz_23 rfl rfl rfl rfl rfl rfl ?_
        refine SXL.assign rfl ?_
        refine SXL.nil ?_
        refine thenQ.normal ?_
        refine SX.ret ?_
        refine retQ.two (ResAt.cellNo 2 sh_23 rfl rfl rfl) (ResAt.tmp rfl) ?_
        have hne : readsP s x ≠ (1, 0) := fun e => c25 (by rw [e])
        have he : readE s x = 0 := by rw [readE, if_neg (by simpa using hv), if_neg (not_not_intro hx), if_neg hne]
        rw [readLo, readHi, if_pos he, if_pos he, he]
set_option maxHeartbeats 2000000 in
theorem rrests_any (s : Sp) (bo ro : Option Addr) (bc rc : Nat) (week : Int) (w : World) (hs : SpAt w s bo ro) :
    CallsR Tryd.prog 33 [.agg ⟨[.int .i64 s.weeks, .int .i64 s.most, .int .i64 s.fall, .int .i64 s.a0, .int .i64 s.a1, .int .i64 s.w0, .int .i64 s.w1, (.slice bo s.book.length bc), (.slice ro s.reads.length rc)]⟩, .int .i64 week] w (IsR2 (restsL s week) (toldE s week)) := by
  refine CallsR.of_SX (n := 49) (rs := [.tmp 4, .tmp 5]) Tryd.func33 rfl rfl rfl rfl ?_
  show SX _ _ _ ⟨[(0, .agg ⟨[.int .i64 s.weeks, .int .i64 s.most, .int .i64 s.fall, .int .i64 s.a0, .int .i64 s.a1, .int .i64 s.w0, .int .i64 s.w1, (.slice bo s.book.length bc), (.slice ro s.reads.length rc)]⟩), (1, .int .i64 week)], [], []⟩
  refine SX.seq ?_
  refine SX.region ?_
  refine SXL.box rfl rfl ?_; intro b0
  refine SXL.assign rfl ?_
  refine SXL.assign rfl ?_
  refine SXL.nil ?_
  refine thenQ.normal ?_
  refine SX.seq ?_
  refine SX.region ?_
  refine SXL.loadNo 0 sh_27 rfl rfl rfl ?_
  refine SXL.move rfl ?_
  refine SXL.call1 (.tuple ⟨[.agg ⟨[.int .i64 ((givesLo s week)), .int .i64 ((givesHi s week))]⟩, .int .i64 (toldE s week)]⟩) fn_23 rfl (fun w hI => gives_any s bo ro bc rc week _ (hs.inv hI)) ?_
  refine SXL.move rfl ?_
  refine SXL.extract rfl rfl ?_
  refine SXL.extract rfl rfl ?_
  refine SXL.alloc zp_23 ?_; intro b1
  refine SXL.store 1 sz_23 rfl rfl rfl rfl rfl rfl ?_
  refine SXL.assign rfl ?_
  refine SXL.nil ?_
  refine thenQ.normal ?_
  refine SX.seq ?_
  refine SX.seq ?_
  refine SX.region ?_
  refine SXL.move rfl ?_
  refine SXL.neqI rfl rfl ?_
  refine SXL.nil ?_
  refine thenQ.normal ?_
  refine SX.condP rfl (fun c20 => ?_) (fun c20 => ?_)
  · refine SX.seq ?_
    refine SX.region ?_
    refine SXL.move rfl ?_
    refine SXL.assign rfl ?_
    refine SXL.assign rfl ?_
    refine SXL.nil ?_
    refine thenQ.normal ?_
    refine SX.ret ?_
    refine thenQ.ret ?_
    refine retQ.dead [Sl.nil.ent 3 []] rfl ?_
    refine retQ.two (ResAt.tmp rfl) (ResAt.tmp rfl) ?_
    have hL : restsL s week = [] := if_neg c20
    exact ⟨Sl.nil, by rw [hL]; exact .none _, by rw [hL]; rfl, by rw [hL]; rfl⟩
  · refine SX.skip ?_
    refine thenQ.normal ?_
    refine SX.seq ?_
    have h0 : toldE s week = 0 := Decidable.not_not.1 c20
    obtain ⟨hv, hwk, ht⟩ := toldE_valid h0
    have hH := hv.1
    unfold HeadP at hH
    refine SX.region ?_
    refine SXL.assign rfl ?_
    refine SXL.nil ?_
    refine thenQ.normal ?_
    refine SX.seq ?_
    refine SX.seq ?_
    refine SX.pad (Sl.nil.ent 3 []) rfl ?_
    refine SX.region ?_
    refine SXL.fieldAddr fp_27_6 rfl ?_
    refine SXL.load1o 0 sh_25 rfl rfl rfl ?_
    refine SXL.len is_25 rfl ?_
    refine SXL.move rfl ?_
    refine SXL.nil ?_
    refine thenQ.normal ?_
    refine SX.block ?_
    refine SX.loopG (α := Nat × Sl × Nat × List Value) [1, 2, 4, 5, 6, 23, 24] rfl (fun ⟨k, q, n, c⟩ => [(25, .int .i64 ((k : Int))), (8, q.val n)]) (fun ⟨k, q, n, c⟩ => [(2, q.ent 3 c)]) (fun ⟨k, q, n, c⟩ => k ≤ s.reads.length ∧ q.Ok n 1 c ∧ c = ints (restsTo s week k)) (fun ⟨k, q, n, c⟩ => s.reads.length - k) (0, Sl.nil, 0, []) ⟨Nat.zero_le _, .none _, rfl⟩ ⟨rfl, rfl, trivial⟩ rfl ?_
    rintro ⟨k, q, n, c⟩ ⟨hkl, ho, rfl⟩
    have hn1 := Ok.n ho
    have hrl := restsTo_len s week k
    refine SX.seq ?_
    refine SX.region ?_
    refine SXL.lss rfl rfl ?_
    refine SXL.nil ?_
    refine thenQ.normal ?_
    refine SX.seq ?_
    refine SX.condP rfl (fun c2 => ?_) (fun c2 => ?_)
    · refine SX.skip ?_
      refine thenQ.normal ?_
      refine SX.seq ?_
      refine SX.block ?_
      refine SX.seq ?_
      have hk : k < s.reads.length := by omega
      obtain ⟨b, o, ha, hm⟩ := hs.readD hk
      refine SX.region ?_
      refine SXL.indexR el_25 rfl rfl ha (by omega) ?_
      refine SXL.loadN sh_54 rfl (hm _) rfl ?_
      refine SXL.alloc zp_54 ?_; intro b3
      refine SXL.store 3 sz_54 rfl rfl rfl rfl rfl rfl ?_
      refine SXL.nil ?_
      refine thenQ.normal ?_
      refine SX.seq ?_
      refine SX.region ?_
      refine SXL.loadNo 0 sh_27 rfl rfl rfl ?_
      refine SXL.fieldAddr fp_54_0 rfl ?_
      refine SXL.load1o 3 sh_3 rfl rfl rfl ?_
      refine SXL.buildSlice et_35 zp_3 rfl rfl rfl rfl ?_; intro b4
      refine SXL.callF (SpR (wo s [(s.reads.getD k default).num])) fn_85 rfl (fun w hI => rwithout_any s bo ro bc rc [(s.reads.getD k default).num] (some ⟨b4, 0, none⟩) 1 (by simp) (by omega) (by omega) w (hs.inv hI) (ownOnes hI (i := 4) [(s.reads.getD k default).num] rfl)) ?_; rintro _ _ ⟨r1, r2, o1, o2, rfl, rfl⟩
      refine SXL.move rfl ?_
      refine SXL.call1 (.tuple ⟨[.agg ⟨[.int .i64 ((givesLo (wo s [(s.reads.getD k default).num]) week)), .int .i64 ((givesHi (wo s [(s.reads.getD k default).num]) week))]⟩, .int .i64 (toldE (wo s [(s.reads.getD k default).num]) week)]⟩) fn_23 rfl (fun w hI => gives_any (wo s [(s.reads.getD k default).num]) r1.addr r2.addr r1.cap r2.cap week _ (spAtOwn hI o1 o2 (i := 5) (j := 6) rfl rfl)) ?_
      refine SXL.move rfl ?_
      refine SXL.extract rfl rfl ?_
      refine SXL.extract rfl rfl ?_
      refine SXL.alloc zp_23 ?_; intro b7
      refine SXL.store 7 sz_23 rfl rfl rfl rfl rfl rfl ?_
      refine SXL.assign rfl ?_
      refine SXL.nil ?_
      refine thenQ.normal ?_
      refine SX.seq ?_
      refine SX.region ?_
      refine SXL.loadNo 7 sh_23 rfl rfl rfl ?_
      refine SXL.loadNo 1 sh_23 rfl rfl rfl ?_
      refine SXL.neqV (p := gvL (wo s [(s.reads.getD k default).num]) week ≠ gvL s week) (u := .agg ⟨ints (gvL (wo s [(s.reads.getD k default).num]) week)⟩) (v := .agg ⟨ints (gvL s week)⟩) rfl rfl (run_neq_ints eq_23 eg_23 sh_23 rfl rfl) ?_
      refine SXL.nil ?_
      refine thenQ.normal ?_
      refine SX.condP rfl (fun c41 => ?_) (fun c41 => ?_)
      · refine SX.region ?_
        refine SXL.move rfl ?_
        refine SXL.fieldAddr fp_54_0 rfl ?_
        refine SXL.load1o 3 sh_3 rfl rfl rfl ?_
        refine SXL.buildSlice et_35 zp_3 rfl rfl rfl rfl ?_; intro b8
        refine SXL.append 2 ap_35 rfl rfl ho rfl (.inr ⟨_, _, rfl, Mem.own (i := 8) rfl (takeAt_all _)⟩) rfl rfl ⟨by simp only [maxLen]; omega, by omega⟩ ?_; intro r_46 o_46
        refine SXL.assign rfl ?_
        refine SXL.nil ?_
        refine blockQ.normal ?_
        refine thenQ.normal ?_
        refine SX.region ?_
        refine SXL.add rfl rfl (by omega) ?_
        refine SXL.move rfl ?_
        refine SXL.nil ?_
        refine thenQ.normal ?_
        refine ⟨(k + 1, _, _, _), Meets.mk _ ⟨rfl, rfl, trivial⟩ ⟨rfl, rfl, rfl, rfl, rfl, rfl, rfl, trivial⟩ rfl, ?_, (show s.reads.length - (k + 1) < s.reads.length - k by omega)⟩
        first
          | exact ⟨by omega, o_46, by rw [restsTo_yes hk c41]; simp [ints]⟩
          | exact ⟨by omega, ho, by rw [restsTo_no hk (Decidable.not_not.1 c41)]⟩
      · refine SX.skip ?_
        refine blockQ.normal ?_
        refine thenQ.normal ?_
        refine SX.region ?_
        refine SXL.add rfl rfl (by omega) ?_
        refine SXL.move rfl ?_
        refine SXL.nil ?_
        refine thenQ.normal ?_
        refine ⟨(k + 1, _, _, _), Meets.mk _ ⟨rfl, rfl, trivial⟩ ⟨rfl, rfl, rfl, rfl, rfl, rfl, rfl, trivial⟩ rfl, ?_, (show s.reads.length - (k + 1) < s.reads.length - k by omega)⟩
        first
          | exact ⟨by omega, o_46, by rw [restsTo_yes hk c41]; simp [ints]⟩
          | exact ⟨by omega, ho, by rw [restsTo_no hk (Decidable.not_not.1 c41)]⟩
    · refine SX.exit ?_
      refine thenQ.exit ?_
      refine thenQ.exit ?_
      refine blockQ.exit ?_
      refine thenQ.normal ?_
      refine SX.seq ?_
      obtain rfl : k = s.reads.length := by omega
      refine SX.region ?_
      refine SXL.move rfl ?_
      refine SXL.assign rfl ?_
      refine SXL.assign rfl ?_
      refine SXL.nil ?_
      refine thenQ.normal ?_
      refine SX.ret ?_
      refine retQ.sel [2] rfl rfl ?_
      refine retQ.two (ResAt.tmp rfl) (ResAt.tmp rfl) ?_
      have e2 := Ok.n ho; subst e2; have hL : restsL s week = restsTo s week s.reads.length := if_pos h0
      rw [h0]
      exact ⟨q, by rw [hL]; exact ho, by rw [hL], by rw [hL]⟩
set_option maxHeartbeats 2000000 in
theorem srests_any (s : Sp) (bo ro : Option Addr) (bc rc : Nat) (week : Int) (hb : s.book.length ≤ 1000000) (hr : s.reads.length ≤ 1000000) (w : World) (hg : Gl w) (hs : SpAt w s bo ro) :
    CallsR Tryd.prog 32 [.agg ⟨[.int .i64 s.weeks, .int .i64 s.most, .int .i64 s.fall, .int .i64 s.a0, .int .i64 s.a1, .int .i64 s.w0, .int .i64 s.w1, (.slice bo s.book.length bc), (.slice ro s.reads.length rc)]⟩, .int .i64 week] w (IsR2 (restsL s week) (toldE s week)) := by
  refine CallsR.of_SX (n := 47) (rs := [.tmp 4, .tmp 5]) Tryd.func32 rfl rfl rfl rfl ?_
  show SX _ _ _ ⟨[(0, .agg ⟨[.int .i64 s.weeks, .int .i64 s.most, .int .i64 s.fall, .int .i64 s.a0, .int .i64 s.a1, .int .i64 s.w0, .int .i64 s.w1, (.slice bo s.book.length bc), (.slice ro s.reads.length rc)]⟩), (1, .int .i64 week)], [], []⟩
  refine SX.seq ?_
  refine SX.region ?_
  refine SXL.box rfl rfl ?_; intro b0
  refine SXL.assign rfl ?_
  refine SXL.assign rfl ?_
  refine SXL.nil ?_
  refine thenQ.normal ?_
  refine SX.seq ?_
  refine SX.region ?_
  refine SXL.loadNo 0 sh_27 rfl rfl rfl ?_
  refine SXL.move rfl ?_
  refine SXL.call1 (.tuple ⟨[.agg ⟨[.int .i64 ((givesLo s week)), .int .i64 ((givesHi s week))]⟩, .int .i64 (toldE s week)]⟩) fn_22 rfl (fun w hI => sgives_any s bo ro bc rc week hb hr _ (hg.inv hI) (hs.inv hI)) ?_
  refine SXL.move rfl ?_
  refine SXL.extract rfl rfl ?_
  refine SXL.extract rfl rfl ?_
  refine SXL.alloc zp_23 ?_; intro b1
  refine SXL.store 1 sz_23 rfl rfl rfl rfl rfl rfl ?_
  refine SXL.assign rfl ?_
  refine SXL.nil ?_
  refine thenQ.normal ?_
  refine SX.seq ?_
  refine SX.seq ?_
  refine SX.region ?_
  refine SXL.move rfl ?_
  refine SXL.neqI rfl rfl ?_
  refine SXL.nil ?_
  refine thenQ.normal ?_
  refine SX.condP rfl (fun c20 => ?_) (fun c20 => ?_)
  · refine SX.seq ?_
    refine SX.region ?_
    refine SXL.move rfl ?_
    refine SXL.assign rfl ?_
    refine SXL.assign rfl ?_
    refine SXL.nil ?_
    refine thenQ.normal ?_
    refine SX.ret ?_
    refine thenQ.ret ?_
    refine retQ.dead [Sl.nil.ent 3 []] rfl ?_
    refine retQ.two (ResAt.tmp rfl) (ResAt.tmp rfl) ?_
    have hL : restsL s week = [] := if_neg c20
    exact ⟨Sl.nil, by rw [hL]; exact .none _, by rw [hL]; rfl, by rw [hL]; rfl⟩
  · refine SX.skip ?_
    refine thenQ.normal ?_
    refine SX.seq ?_
    have h0 : toldE s week = 0 := Decidable.not_not.1 c20
    obtain ⟨hv, hwk, ht⟩ := toldE_valid h0
    have hH := hv.1
    unfold HeadP at hH
    refine SX.region ?_
    refine SXL.assign rfl ?_
    refine SXL.nil ?_
    refine thenQ.normal ?_
    refine SX.seq ?_
    refine SX.seq ?_
    refine SX.pad (Sl.nil.ent 3 []) rfl ?_
    refine SX.region ?_
    refine SXL.loadNo 0 sh_27 rfl rfl rfl ?_
    refine SXL.callF (IsI (numsL s)) fn_83 rfl (fun w hI => numbers_any s bo ro bc rc hb hr w (hs.inv hI)) ?_; rintro _ _ ⟨q0, o0, rfl, rfl⟩
    refine SXL.len is_35 rfl ?_
    refine SXL.move rfl ?_
    refine SXL.nil ?_
    refine thenQ.normal ?_
    refine SX.block ?_
    refine SX.loopG (α := Nat × Sl × Nat × List Value) [1, 2, 4, 5, 6, 23, 24] rfl (fun ⟨k, q, n, c⟩ => [(25, .int .i64 ((k : Int))), (8, q.val n)]) (fun ⟨k, q, n, c⟩ => [(2, q.ent 3 c)]) (fun ⟨k, q, n, c⟩ => k ≤ s.reads.length ∧ q.Ok n 1 c ∧ c = ints (restsTo s week k)) (fun ⟨k, q, n, c⟩ => s.reads.length - k) (0, Sl.nil, 0, []) ⟨Nat.zero_le _, .none _, rfl⟩ ⟨rfl, rfl, trivial⟩ rfl ?_
    rintro ⟨k, q, n, c⟩ ⟨hkl, ho, rfl⟩
    have hn1 := Ok.n ho
    have hrl := restsTo_len s week k
    refine SX.seq ?_
    refine SX.region ?_
    refine SXL.lss rfl rfl ?_
    refine SXL.nil ?_
    refine thenQ.normal ?_
    refine SX.seq ?_
    refine SX.condP rfl (fun c2 => ?_) (fun c2 => ?_)
    · refine SX.skip ?_
      refine thenQ.normal ?_
      refine SX.seq ?_
      refine SX.block ?_
      refine SX.seq ?_
      have hnl := length_numsL s
      have hk : k < s.reads.length := by omega
      refine SX.region ?_
      refine SXL.indexSl 3 el_35 rfl rfl (by omega) rfl o0 ?_; intro b9 hb9
      refine SXL.loadSl1 3 (v := .int .i64 (s.reads.getD k default).num) sh_3 rfl hb9 rfl o0 (by simp [ints, numsL, hk]) ?_
      refine SXL.assign rfl ?_
      refine SXL.nil ?_
      refine thenQ.normal ?_
      refine SX.seq ?_
      refine SX.region ?_
      refine SXL.loadNo 0 sh_27 rfl rfl rfl ?_
      refine SXL.move rfl ?_
      refine SXL.buildSlice et_35 zp_3 rfl rfl rfl rfl ?_; intro b4
      refine SXL.callF (SpR (wo s [(s.reads.getD k default).num])) fn_84 rfl (fun w hI => swithout_any s bo ro bc rc [(s.reads.getD k default).num] (some ⟨b4, 0, none⟩) 1 (by simp) (by omega) (by omega) (nums_nodup hv.2.2) w (hs.inv hI) (ownOnes hI (i := 4) [(s.reads.getD k default).num] rfl)) ?_; rintro _ _ ⟨r1, r2, o1, o2, rfl, rfl⟩
      refine SXL.move rfl ?_
      refine SXL.call1 (.tuple ⟨[.agg ⟨[.int .i64 ((givesLo (wo s [(s.reads.getD k default).num]) week)), .int .i64 ((givesHi (wo s [(s.reads.getD k default).num]) week))]⟩, .int .i64 (toldE (wo s [(s.reads.getD k default).num]) week)]⟩) fn_22 rfl (fun w hI => sgives_any (wo s [(s.reads.getD k default).num]) r1.addr r2.addr r1.cap r2.cap week hb (by have := keepR_len s.reads [(s.reads.getD k default).num]; show (keepR _ _).length ≤ _; omega) _ (hg.inv hI) (spAtOwn hI o1 o2 (i := 5) (j := 6) rfl rfl)) ?_
      refine SXL.move rfl ?_
      refine SXL.extract rfl rfl ?_
      refine SXL.extract rfl rfl ?_
      refine SXL.alloc zp_23 ?_; intro b7
      refine SXL.store 7 sz_23 rfl rfl rfl rfl rfl rfl ?_
      refine SXL.assign rfl ?_
      refine SXL.nil ?_
      refine thenQ.normal ?_
      refine SX.seq ?_
      refine SX.region ?_
      refine SXL.loadNo 7 sh_23 rfl rfl rfl ?_
      refine SXL.loadNo 1 sh_23 rfl rfl rfl ?_
      refine SXL.neqV (p := gvL (wo s [(s.reads.getD k default).num]) week ≠ gvL s week) (u := .agg ⟨ints (gvL (wo s [(s.reads.getD k default).num]) week)⟩) (v := .agg ⟨ints (gvL s week)⟩) rfl rfl (run_neq_ints eq_23 eg_23 sh_23 rfl rfl) ?_
      refine SXL.nil ?_
      refine thenQ.normal ?_
      refine SX.condP rfl (fun c40 => ?_) (fun c40 => ?_)
      · refine SX.region ?_
        refine SXL.move rfl ?_
        refine SXL.move rfl ?_
        refine SXL.buildSlice et_35 zp_3 rfl rfl rfl rfl ?_; intro b8
        refine SXL.append 2 ap_35 rfl rfl ho rfl (.inr ⟨_, _, rfl, Mem.own (i := 8) rfl (takeAt_all _)⟩) rfl rfl ⟨by simp only [maxLen]; omega, by omega⟩ ?_; intro r_44 o_44
        refine SXL.assign rfl ?_
        refine SXL.nil ?_
        refine blockQ.normal ?_
        refine thenQ.normal ?_
        refine SX.region ?_
        refine SXL.add rfl rfl (by omega) ?_
        refine SXL.move rfl ?_
        refine SXL.nil ?_
        refine thenQ.normal ?_
        refine ⟨(k + 1, _, _, _), Meets.mk _ ⟨rfl, rfl, trivial⟩ ⟨rfl, rfl, rfl, rfl, rfl, rfl, rfl, trivial⟩ rfl, ?_, (show s.reads.length - (k + 1) < s.reads.length - k by omega)⟩
        first
          | exact ⟨by omega, o_44, by rw [restsTo_yes hk c40]; simp [ints]⟩
          | exact ⟨by omega, ho, by rw [restsTo_no hk (Decidable.not_not.1 c40)]⟩
      · refine SX.skip ?_
        refine blockQ.normal ?_
        refine thenQ.normal ?_
        refine SX.region ?_
        refine SXL.add rfl rfl (by omega) ?_
        refine SXL.move rfl ?_
        refine SXL.nil ?_
        refine thenQ.normal ?_
        refine ⟨(k + 1, _, _, _), Meets.mk _ ⟨rfl, rfl, trivial⟩ ⟨rfl, rfl, rfl, rfl, rfl, rfl, rfl, trivial⟩ rfl, ?_, (show s.reads.length - (k + 1) < s.reads.length - k by omega)⟩
        first
          | exact ⟨by omega, o_44, by rw [restsTo_yes hk c40]; simp [ints]⟩
          | exact ⟨by omega, ho, by rw [restsTo_no hk (Decidable.not_not.1 c40)]⟩
    · refine SX.exit ?_
      refine thenQ.exit ?_
      refine thenQ.exit ?_
      refine blockQ.exit ?_
      refine thenQ.normal ?_
      refine SX.seq ?_
      have hnl := length_numsL s
      obtain rfl : k = s.reads.length := by omega
      refine SX.region ?_
      refine SXL.move rfl ?_
      refine SXL.assign rfl ?_
      refine SXL.assign rfl ?_
      refine SXL.nil ?_
      refine thenQ.normal ?_
      refine SX.ret ?_
      refine retQ.sel [2] rfl rfl ?_
      refine retQ.two (ResAt.tmp rfl) (ResAt.tmp rfl) ?_
      have e2 := Ok.n ho; subst e2; have hL : restsL s week = restsTo s week s.reads.length := if_pos h0
      rw [h0]
      exact ⟨q, by rw [hL]; exact ho, by rw [hL], by rw [hL]⟩
end Go.Proofs.YtknflipongbngaaDoor

/- The readings that must be false: lists handed back. -/
namespace Go.S
open Go Go.X
/-- A list that is found, or none. -/
structure FrR (o : Option (List Int)) (v : Value) (own : X.Own) : Prop where
  ex : ∃ r : Sl, r.Ok (o.getD []).length 1 (ints (o.getD [])) ∧ v = .tuple ⟨[r.val (o.getD []).length, .bool (decide (o.isSome = true))]⟩ ∧ own = [r.ent 3 (ints (o.getD []))]
theorem FrR.none {o : Option (List Int)} (h : o = .none) : FrR o (.tuple ⟨[.slice .none 0 0, .bool (decide False)]⟩) [Sl.nil.ent 3 []] := by
  subst h
  exact ⟨Sl.nil, Sl.Ok.none _, by simp [Sl.val, Sl.nil, Sl.addr], rfl⟩
theorem FrR.some {o : Option (List Int)} {r : Sl} {l : List Int} {n : Nat} (h : o = .some l) (ho : r.Ok n 1 (ints l)) {p : Prop} [Decidable p] (hp : p) : FrR o (.tuple ⟨[r.val n, .bool (decide p)]⟩) [r.ent 3 (ints l)] := by
  subst h
  have e := Ok.n ho
  subst e
  exact ⟨r, ho, by simp [hp], rfl⟩
theorem RowsAt.cut1 {w : World} {ao : Option Addr} {l : List Int} (h : RowsAt w ao 1 (ones l)) {i c : Nat} (hc : l.length ≤ c) : RowsAt w (cutAddr ao i c 1) 1 (ones (l.drop i)) := by
  by_cases hi : l.length ≤ i
  · left
    simp [ones, List.drop_eq_nil_of_le hi]
  · rcases h with h | ⟨b, o, rfl, h2⟩
    · have hl : l = [] := by simpa [ones] using h
      simp [hl] at hi
    · right
      unfold cutAddr
      rw [if_neg (by omega)]
      refine ⟨b, o + i * 1, by simp [addr_add], fun k r hr j u hj => ?_⟩
      have hr' : (ones l)[i + k]? = .some r := by
        rw [← hr]
        simp [ones]
      have := h2 (i + k) r hr' j u hj
      rwa [show o + (i + k) * 1 + j = o + i * 1 + k * 1 + j by omega] at this
theorem _root_.Go.X.CallsR.own0 {P : Program} {f : FuncId} {args : List Value} {w : World} {S : Value → Prop} {R : Value → X.Own → Prop} (h : CallsR P f args w fun v _ => S v) (hr : ∀ v, S v → R v [Sl.nil.ent 3 []]) : CallsR P f args w R :=
  Calls.mono h fun _ _ ⟨v, _, h1, h2, h3⟩ => ⟨v, [Sl.nil.ent 3 []], h1, (h2.weaken (List.nil_sublist _)).pad (p := Sl.nil.ent 3 []) rfl, hr v h3⟩
theorem wrongF_at {s : Sp} {m : Nat} (hm : m < 3) (hb : ∀ k, k < m → struckP s k 0 [] = .none) {r : List Int} (h : struckP s m 0 [] = .some r) : wrongF s = .some r := by
  match m, hm with
  | 0, _ => simp [wrongF, h]
  | 1, _ => simp [wrongF, hb 0 (by omega), h]
  | 2, _ => simp [wrongF, hb 0 (by omega), hb 1 (by omega), h]
theorem wrongF_no {s : Sp} (hb : ∀ k, k < 3 → struckP s k 0 [] = .none) : wrongF s = .none := by
  simp [wrongF, hb 0 (by omega), hb 1 (by omega), hb 2 (by omega)]
theorem isSome_false {o : Option (List Int)} (h : ¬(o.isSome = true)) : o = .none := by cases o <;> simp_all
theorem isSome_get {o : Option (List Int)} (h : o.isSome = true) : o = .some (o.getD []) := by cases o <;> simp_all
end Go.S

/- The walks of functions. -/
namespace Go.Proofs.YtknflipongbngaaDoor
open Go.X Go.S Go.RowKit
theorem rstruck0 (s : Sp) (bo ro : Option Addr) (bc rc : Nat) (hv : SpP s) (i : Nat) (l : List Int) (ao : Option Addr) (n c : Nat) (hn : l.length = n) (hn2 : n + 0 ≤ 1000) (w : World) (hs : SpAt w s bo ro) (hl : RowsAt w ao 1 (ones l)) :
    CallsR Tryd.prog 88 [.agg ⟨[.int .i64 s.weeks, .int .i64 s.most, .int .i64 s.fall, .int .i64 s.a0, .int .i64 s.a1, .int .i64 s.w0, .int .i64 s.w1, (.slice bo s.book.length bc), (.slice ro s.reads.length rc)]⟩, .int .i64 0, .int .i64 ((i : Int)), .slice ao n c] w (fun v _ => v = .tuple ⟨[.slice ao n c, .bool (decide (TrueP (wo s l)))]⟩) := by
  have hH := hv.1
  unfold HeadP at hH
  refine CallsR.of_SX (n := 50) (rs := [.tmp 8, .tmp 9]) Tryd.func88 rfl rfl rfl rfl ?_
  show SX _ _ _ ⟨[(0, .agg ⟨[.int .i64 s.weeks, .int .i64 s.most, .int .i64 s.fall, .int .i64 s.a0, .int .i64 s.a1, .int .i64 s.w0, .int .i64 s.w1, (.slice bo s.book.length bc), (.slice ro s.reads.length rc)]⟩), (1, .int .i64 0), (2, .int .i64 ((i : Int))), (3, .slice ao n c)], [], []⟩
  subst hn
  refine SX.seq ?_
  refine SX.region ?_
  refine SXL.box rfl rfl ?_; intro b0
  refine SXL.assign rfl ?_
  refine SXL.assign rfl ?_
  refine SXL.nil ?_
  refine thenQ.normal ?_
  refine SX.seq ?_
  refine SX.seq ?_
  refine SX.region ?_
  refine SXL.move rfl ?_
  refine SXL.eqlI rfl rfl ?_
  refine SXL.nil ?_
  refine thenQ.normal ?_
  refine SX.condP rfl (fun c14 => ?_) (fun c14 => ?_)
  rotate_left
  · exfalso; exact c14 rfl
  refine SX.seq ?_
  refine SX.region ?_
  refine SXL.move rfl ?_
  refine SXL.loadNo 0 sh_27 rfl rfl rfl ?_
  refine SXL.move rfl ?_
  refine SXL.callF (SpR (wo s l)) fn_85 rfl (fun w hI => rwithout_any s bo ro bc rc l ao c (by omega) (by omega) (by omega) w (hs.inv hI) (hl.inv hI)) ?_; rintro _ _ ⟨r1, r2, o1, o2, rfl, rfl⟩
  refine SXL.call1 (.bool (decide (TrueP (wo s l)))) fn_60 rfl (fun w hI => true_any (wo s l) r1.addr r2.addr r1.cap r2.cap (wo_valid hv l) _ (spAtOwn hI o1 o2 (i := 1) (j := 2) rfl rfl)) ?_
  refine SXL.assign rfl ?_
  refine SXL.assign rfl ?_
  refine SXL.nil ?_
  refine thenQ.normal ?_
  refine SX.ret ?_
  refine thenQ.ret ?_
  refine retQ.dead [] rfl ?_
  refine retQ.two (ResAt.tmp rfl) (ResAt.tmp rfl) ?_
  rfl
set_option maxHeartbeats 2000000 in
theorem rstruck1 (s : Sp) (bo ro : Option Addr) (bc rc : Nat) (hv : SpP s) (i : Nat) (l : List Int) (ao : Option Addr) (n c : Nat) (hn : l.length = n) (hn2 : n + 1 ≤ 1000) (w : World) (hs : SpAt w s bo ro) (hl : RowsAt w ao 1 (ones l)) :
    CallsR Tryd.prog 88 [.agg ⟨[.int .i64 s.weeks, .int .i64 s.most, .int .i64 s.fall, .int .i64 s.a0, .int .i64 s.a1, .int .i64 s.w0, .int .i64 s.w1, (.slice bo s.book.length bc), (.slice ro s.reads.length rc)]⟩, .int .i64 1, .int .i64 ((i : Int)), .slice ao n c] w (FrR (struckP s 1 i l)) := by
  have hH := hv.1
  unfold HeadP at hH
  refine CallsR.of_SX (n := 50) (rs := [.tmp 8, .tmp 9]) Tryd.func88 rfl rfl rfl rfl ?_
  show SX _ _ _ ⟨[(0, .agg ⟨[.int .i64 s.weeks, .int .i64 s.most, .int .i64 s.fall, .int .i64 s.a0, .int .i64 s.a1, .int .i64 s.w0, .int .i64 s.w1, (.slice bo s.book.length bc), (.slice ro s.reads.length rc)]⟩), (1, .int .i64 1), (2, .int .i64 ((i : Int))), (3, .slice ao n c)], [], []⟩
  subst hn
  refine SX.seq ?_
  refine SX.region ?_
  refine SXL.box rfl rfl ?_; intro b0
  refine SXL.assign rfl ?_
  refine SXL.assign rfl ?_
  refine SXL.nil ?_
  refine thenQ.normal ?_
  refine SX.seq ?_
  refine SX.seq ?_
  refine SX.region ?_
  refine SXL.move rfl ?_
  refine SXL.eqlI rfl rfl ?_
  refine SXL.nil ?_
  refine thenQ.normal ?_
  refine SX.condP rfl (fun c14 => ?_) (fun c14 => ?_)
  · exfalso; omega
  refine SX.skip ?_
  refine thenQ.normal ?_
  refine SX.seq ?_
  refine SX.seq ?_
  refine SX.region ?_
  refine SXL.move rfl ?_
  refine SXL.assign rfl ?_
  refine SXL.nil ?_
  refine thenQ.normal ?_
  refine SX.block ?_
  refine SX.loopG (α := Nat) [1, 3, 4, 8, 9] rfl (fun k => [(10, .int .i64 ((k : Int)))]) (fun k => []) (fun k => struckP s 1 i l = struckP s 1 k l ∧ (k ≤ s.reads.length ∨ k ≤ i)) (fun k => s.reads.length - k) i ⟨rfl, .inr (Nat.le_refl _)⟩ ⟨rfl, trivial⟩ rfl ?_
  rintro k ⟨hst, hkl⟩
  refine SX.seq ?_
  refine SX.seq ?_
  refine SX.region ?_
  refine SXL.move rfl ?_
  refine SXL.fieldAddr fp_27_6 rfl ?_
  refine SXL.load1o 0 sh_25 rfl rfl rfl ?_
  refine SXL.len is_25 rfl ?_
  refine SXL.lss rfl rfl ?_
  refine SXL.nil ?_
  refine thenQ.normal ?_
  refine SX.condP rfl (fun c2 => ?_) (fun c2 => ?_)
  · refine SX.skip ?_
    refine thenQ.normal ?_
    refine SX.seq ?_
    refine SX.block ?_
    refine SX.seq ?_
    have hk : k < s.reads.length := by omega
    obtain ⟨b, o, ha, hm⟩ := hs.readD hk
    refine SX.draw 22 (by kernel_rfl) (by kernel_rfl) ⟨[0, 1, 2, 3, 4, 5, 6, 8, 9, 10, 11, 12, 13, 14, 15, 16, 17, 18, 19, 20, 21], [true, false, false, false]⟩ ?_
    refine SXA.takeM 0 5 rfl (by kernel_rfl) rfl ?_
    refine SXL.loadNo 0 sh_27 rfl rfl rfl ?_
    refine SXL.move rfl ?_
    refine SXL.sub rfl rfl (by omega) ?_
    refine SXL.move rfl ?_
    refine SXL.add rfl rfl (by omega) ?_
    refine SXL.nil ⟨rfl, rfl, rfl, ?_⟩
    refine SXA.takeM 6 1 rfl (by kernel_rfl) rfl ?_
    refine SXL.move rfl ?_
    refine SXL.nil ⟨rfl, rfl, rfl, ?_⟩
    refine SXA.takeM 8 6 rfl (by kernel_rfl) rfl ?_
    refine SXL.fieldAddr fp_27_6 rfl ?_
    refine SXL.load1o 0 sh_25 rfl rfl rfl ?_
    refine SXL.move rfl ?_
    refine SXL.indexR el_25 rfl rfl ha (by omega) ?_
    refine SXL.fieldAddr fp_54_0 rfl ?_
    refine SXL.load1 sh_3 rfl ((hm _).sub (j := 0) (k := 1) rfl) ?_
    refine SXL.nil ⟨rfl, rfl, rfl, ?_⟩
    refine SXA.all [5, 14] (by kernel_rfl) rfl ⟨⟨?_, rfl⟩, ⟨?_, rfl⟩, trivial⟩
    · refine (show SXL _ _ [_] _ _ from ?_)
      refine SXL.buildSlice0 et_35 ?_; intro b1
      refine SXL.nil (stepQ.mk _ rfl rfl ?_)
      refine SXA.all [7, 14] (by kernel_rfl) rfl ⟨⟨?_, rfl⟩, ⟨?_, rfl⟩, trivial⟩
      · refine (show SXL _ _ [_] _ _ from ?_)
        refine SXL.appendE (some b1) ap_35 rfl rfl (onesSrc hl _) (by simp) (ints_isOne _) ⟨by simp only [maxLen]; omega, by omega⟩ ?_; intro r_36 o_36
        refine SXL.nil (stepQ.mkL _ (by kernel_rfl) rfl rfl ?_)
        refine SXA.all [14] (by kernel_rfl) rfl ⟨⟨?_, rfl⟩, trivial⟩
        refine (show SXL _ _ [_] _ _ from ?_)
        refine SXL.buildSlice et_35 zp_3 rfl rfl rfl rfl ?_; intro b3
        refine SXL.nil (stepQ.mk _ rfl rfl ?_)
        refine SXA.all [15] (by kernel_rfl) rfl ⟨⟨?_, rfl⟩, trivial⟩
        refine (show SXL _ _ [_] _ _ from ?_)
        refine SXL.append 2 ap_35 rfl rfl o_36 rfl (.inr ⟨_, _, rfl, Mem.own (i := 3) rfl (takeAt_all _)⟩) rfl rfl ⟨by simp only [maxLen]; omega, by omega⟩ ?_; intro r_44 o_44
        refine SXL.nil (stepQ.mkL _ (by kernel_rfl) rfl rfl ?_)
        refine SXA.all [16] (by kernel_rfl) rfl ⟨⟨?_, rfl⟩, trivial⟩
        refine (show SXL _ _ [_] _ _ from ?_)
        refine SXL.callP (fun v => v = .tuple ⟨[r_44.val (l.length + 1), .bool (decide (TrueP (wo s (l ++ [(s.reads.getD k default).num]))))]⟩) fn_88 rfl (fun w hI => rstruck0 s bo ro bc rc hv (k + 1) (l ++ [(s.reads.getD k default).num]) r_44.addr (l.length + 1) r_44.cap (by simp) (by omega) w (hs.inv hI) (slOnes hI (l := (l ++ [(s.reads.getD k default).num])) (by rw [ints_snoc]; exact o_44) (i := 2) (by rw [ints_snoc]; rfl))) ?_; rintro _ rfl
        refine SXL.nil (stepQ.mk _ rfl rfl ?_)
        refine SXA.takeM 17 5 rfl (by kernel_rfl) rfl ?_
        refine SXL.move rfl ?_
        refine SXL.extract rfl rfl ?_
        refine SXL.extract rfl rfl ?_
        refine SXL.assign rfl ?_
        refine SXL.assign rfl ?_
        refine SXL.nil ⟨rfl, rfl, rfl, ?_⟩
        refine SXA.done (by kernel_rfl) ?_
        refine SXL.nil ?_
        refine thenQ.normal ?_
        refine SX.seq ?_
        refine SX.region ?_
        refine SXL.move rfl ?_
        refine SXL.nil ?_
        refine thenQ.normal ?_
        refine SX.condP rfl (fun c48 => ?_) (fun c48 => ?_)
        · refine SX.seq ?_
          refine SX.region ?_
          refine SXL.move rfl ?_
          refine SXL.assign rfl ?_
          refine SXL.assign rfl ?_
          refine SXL.nil ?_
          refine thenQ.normal ?_
          refine SX.ret ?_
          refine blockQ.ret ?_
          refine thenQ.ret ?_
          refine thenQ.ret ?_
          refine blockQ.ret ?_
          refine thenQ.ret ?_
          refine retQ.sel [2] rfl rfl ?_
          refine retQ.two (ResAt.tmp rfl) (ResAt.tmp rfl) ?_
          refine Eq.mp (congrArg (fun c => FrR _ _ [Sl.ent r_44 3 c]) (ints_snoc l (s.reads.getD k default).num)) ?_
          exact FrR.some (p := True) (hst.trans (by rw [struck_step hk]; simp only [struckP, if_pos c48])) (by rw [ints_snoc]; exact o_44) trivial
        · refine SX.skip ?_
          refine blockQ.normal ?_
          refine thenQ.normal ?_
          refine SX.region ?_
          refine SXL.move rfl ?_
          refine SXL.add rfl rfl (by omega) ?_
          refine SXL.assign rfl ?_
          refine SXL.nil ?_
          refine thenQ.normal ?_
          refine ⟨k + 1, Meets.mk _ ⟨rfl, trivial⟩ ⟨rfl, rfl, rfl, rfl, rfl, trivial⟩ rfl, ⟨by rw [hst, struck_step hk]; simp only [struckP, if_neg c48], .inl hk⟩, (by omega)⟩
      · refine (show SXL _ _ [_] _ _ from ?_)
        refine SXL.buildSlice et_35 zp_3 rfl rfl rfl rfl ?_; intro b2
        refine SXL.nil (stepQ.mk _ rfl rfl ?_)
        refine SXA.all [7] (by kernel_rfl) rfl ⟨⟨?_, rfl⟩, trivial⟩
        refine (show SXL _ _ [_] _ _ from ?_)
        refine SXL.appendE (some b1) ap_35 rfl rfl (onesSrc hl _) (by simp) (ints_isOne _) ⟨by simp only [maxLen]; omega, by omega⟩ ?_; intro r_36 o_36
        refine SXL.nil (stepQ.mkL _ (by kernel_rfl) rfl rfl ?_)
        refine SXA.all [15] (by kernel_rfl) rfl ⟨⟨?_, rfl⟩, trivial⟩
        refine (show SXL _ _ [_] _ _ from ?_)
        refine SXL.append 3 ap_35 rfl rfl o_36 rfl (.inr ⟨_, _, rfl, Mem.own (i := 2) rfl (takeAt_all _)⟩) rfl rfl ⟨by simp only [maxLen]; omega, by omega⟩ ?_; intro r_44 o_44
        refine SXL.nil (stepQ.mkL _ (by kernel_rfl) rfl rfl ?_)
        refine SXA.all [16] (by kernel_rfl) rfl ⟨⟨?_, rfl⟩, trivial⟩
        refine (show SXL _ _ [_] _ _ from ?_)
        refine SXL.callP (fun v => v = .tuple ⟨[r_44.val (l.length + 1), .bool (decide (TrueP (wo s (l ++ [(s.reads.getD k default).num]))))]⟩) fn_88 rfl (fun w hI => rstruck0 s bo ro bc rc hv (k + 1) (l ++ [(s.reads.getD k default).num]) r_44.addr (l.length + 1) r_44.cap (by simp) (by omega) w (hs.inv hI) (slOnes hI (l := (l ++ [(s.reads.getD k default).num])) (by rw [ints_snoc]; exact o_44) (i := 3) (by rw [ints_snoc]; rfl))) ?_; rintro _ rfl
        refine SXL.nil (stepQ.mk _ rfl rfl ?_)
        refine SXA.takeM 17 5 rfl (by kernel_rfl) rfl ?_
        refine SXL.move rfl ?_
        refine SXL.extract rfl rfl ?_
        refine SXL.extract rfl rfl ?_
        refine SXL.assign rfl ?_
        refine SXL.assign rfl ?_
        refine SXL.nil ⟨rfl, rfl, rfl, ?_⟩
        refine SXA.done (by kernel_rfl) ?_
        refine SXL.nil ?_
        refine thenQ.normal ?_
        refine SX.seq ?_
        refine SX.region ?_
        refine SXL.move rfl ?_
        refine SXL.nil ?_
        refine thenQ.normal ?_
        refine SX.condP rfl (fun c48 => ?_) (fun c48 => ?_)
        · refine SX.seq ?_
          refine SX.region ?_
          refine SXL.move rfl ?_
          refine SXL.assign rfl ?_
          refine SXL.assign rfl ?_
          refine SXL.nil ?_
          refine thenQ.normal ?_
          refine SX.ret ?_
          refine blockQ.ret ?_
          refine thenQ.ret ?_
          refine thenQ.ret ?_
          refine blockQ.ret ?_
          refine thenQ.ret ?_
          refine retQ.sel [3] rfl rfl ?_
          refine retQ.two (ResAt.tmp rfl) (ResAt.tmp rfl) ?_
          refine Eq.mp (congrArg (fun c => FrR _ _ [Sl.ent r_44 3 c]) (ints_snoc l (s.reads.getD k default).num)) ?_
          exact FrR.some (p := True) (hst.trans (by rw [struck_step hk]; simp only [struckP, if_pos c48])) (by rw [ints_snoc]; exact o_44) trivial
        · refine SX.skip ?_
          refine blockQ.normal ?_
          refine thenQ.normal ?_
          refine SX.region ?_
          refine SXL.move rfl ?_
          refine SXL.add rfl rfl (by omega) ?_
          refine SXL.assign rfl ?_
          refine SXL.nil ?_
          refine thenQ.normal ?_
          refine ⟨k + 1, Meets.mk _ ⟨rfl, trivial⟩ ⟨rfl, rfl, rfl, rfl, rfl, trivial⟩ rfl, ⟨by rw [hst, struck_step hk]; simp only [struckP, if_neg c48], .inl hk⟩, (by omega)⟩
    · refine (show SXL _ _ [_] _ _ from ?_)
      refine SXL.buildSlice et_35 zp_3 rfl rfl rfl rfl ?_; intro b1
      refine SXL.nil (stepQ.mk _ rfl rfl ?_)
      refine SXA.all [5] (by kernel_rfl) rfl ⟨⟨?_, rfl⟩, trivial⟩
      refine (show SXL _ _ [_] _ _ from ?_)
      refine SXL.buildSlice0 et_35 ?_; intro b2
      refine SXL.nil (stepQ.mk _ rfl rfl ?_)
      refine SXA.all [7] (by kernel_rfl) rfl ⟨⟨?_, rfl⟩, trivial⟩
      refine (show SXL _ _ [_] _ _ from ?_)
      refine SXL.appendE (some b2) ap_35 rfl rfl (onesSrc hl _) (by simp) (ints_isOne _) ⟨by simp only [maxLen]; omega, by omega⟩ ?_; intro r_36 o_36
      refine SXL.nil (stepQ.mkL _ (by kernel_rfl) rfl rfl ?_)
      refine SXA.all [15] (by kernel_rfl) rfl ⟨⟨?_, rfl⟩, trivial⟩
      refine (show SXL _ _ [_] _ _ from ?_)
      refine SXL.append 3 ap_35 rfl rfl o_36 rfl (.inr ⟨_, _, rfl, Mem.own (i := 1) rfl (takeAt_all _)⟩) rfl rfl ⟨by simp only [maxLen]; omega, by omega⟩ ?_; intro r_44 o_44
      refine SXL.nil (stepQ.mkL _ (by kernel_rfl) rfl rfl ?_)
      refine SXA.all [16] (by kernel_rfl) rfl ⟨⟨?_, rfl⟩, trivial⟩
      refine (show SXL _ _ [_] _ _ from ?_)
      refine SXL.callP (fun v => v = .tuple ⟨[r_44.val (l.length + 1), .bool (decide (TrueP (wo s (l ++ [(s.reads.getD k default).num]))))]⟩) fn_88 rfl (fun w hI => rstruck0 s bo ro bc rc hv (k + 1) (l ++ [(s.reads.getD k default).num]) r_44.addr (l.length + 1) r_44.cap (by simp) (by omega) w (hs.inv hI) (slOnes hI (l := (l ++ [(s.reads.getD k default).num])) (by rw [ints_snoc]; exact o_44) (i := 3) (by rw [ints_snoc]; rfl))) ?_; rintro _ rfl
      refine SXL.nil (stepQ.mk _ rfl rfl ?_)
      refine SXA.takeM 17 5 rfl (by kernel_rfl) rfl ?_
      refine SXL.move rfl ?_
      refine SXL.extract rfl rfl ?_
      refine SXL.extract rfl rfl ?_
      refine SXL.assign rfl ?_
      refine SXL.assign rfl ?_
      refine SXL.nil ⟨rfl, rfl, rfl, ?_⟩
      refine SXA.done (by kernel_rfl) ?_
      refine SXL.nil ?_
      refine thenQ.normal ?_
      refine SX.seq ?_
      refine SX.region ?_
      refine SXL.move rfl ?_
      refine SXL.nil ?_
      refine thenQ.normal ?_
      refine SX.condP rfl (fun c48 => ?_) (fun c48 => ?_)
      · refine SX.seq ?_
        refine SX.region ?_
        refine SXL.move rfl ?_
        refine SXL.assign rfl ?_
        refine SXL.assign rfl ?_
        refine SXL.nil ?_
        refine thenQ.normal ?_
        refine SX.ret ?_
        refine blockQ.ret ?_
        refine thenQ.ret ?_
        refine thenQ.ret ?_
        refine blockQ.ret ?_
        refine thenQ.ret ?_
        refine retQ.sel [3] rfl rfl ?_
        refine retQ.two (ResAt.tmp rfl) (ResAt.tmp rfl) ?_
        refine Eq.mp (congrArg (fun c => FrR _ _ [Sl.ent r_44 3 c]) (ints_snoc l (s.reads.getD k default).num)) ?_
        exact FrR.some (p := True) (hst.trans (by rw [struck_step hk]; simp only [struckP, if_pos c48])) (by rw [ints_snoc]; exact o_44) trivial
      · refine SX.skip ?_
        refine blockQ.normal ?_
        refine thenQ.normal ?_
        refine SX.region ?_
        refine SXL.move rfl ?_
        refine SXL.add rfl rfl (by omega) ?_
        refine SXL.assign rfl ?_
        refine SXL.nil ?_
        refine thenQ.normal ?_
        refine ⟨k + 1, Meets.mk _ ⟨rfl, trivial⟩ ⟨rfl, rfl, rfl, rfl, rfl, trivial⟩ rfl, ⟨by rw [hst, struck_step hk]; simp only [struckP, if_neg c48], .inl hk⟩, (by omega)⟩
  · refine SX.exit ?_
    refine thenQ.exit ?_
    refine thenQ.exit ?_
    refine blockQ.exit ?_
    refine thenQ.normal ?_
    refine SX.seq ?_
    refine SX.region ?_
    refine SXL.assign rfl ?_
    refine SXL.assign rfl ?_
    refine SXL.nil ?_
    refine thenQ.normal ?_
    refine SX.ret ?_
    refine retQ.dead [Sl.nil.ent 3 []] rfl ?_
    refine retQ.two (ResAt.tmp rfl) (ResAt.tmp rfl) ?_
    exact FrR.none (hst.trans (struck_done (by omega)))
set_option maxHeartbeats 2000000 in
theorem rstruck2 (s : Sp) (bo ro : Option Addr) (bc rc : Nat) (hv : SpP s) (i : Nat) (l : List Int) (ao : Option Addr) (n c : Nat) (hn : l.length = n) (hn2 : n + 2 ≤ 1000) (w : World) (hs : SpAt w s bo ro) (hl : RowsAt w ao 1 (ones l)) :
    CallsR Tryd.prog 88 [.agg ⟨[.int .i64 s.weeks, .int .i64 s.most, .int .i64 s.fall, .int .i64 s.a0, .int .i64 s.a1, .int .i64 s.w0, .int .i64 s.w1, (.slice bo s.book.length bc), (.slice ro s.reads.length rc)]⟩, .int .i64 2, .int .i64 ((i : Int)), .slice ao n c] w (FrR (struckP s 2 i l)) := by
  have hH := hv.1
  unfold HeadP at hH
  refine CallsR.of_SX (n := 50) (rs := [.tmp 8, .tmp 9]) Tryd.func88 rfl rfl rfl rfl ?_
  show SX _ _ _ ⟨[(0, .agg ⟨[.int .i64 s.weeks, .int .i64 s.most, .int .i64 s.fall, .int .i64 s.a0, .int .i64 s.a1, .int .i64 s.w0, .int .i64 s.w1, (.slice bo s.book.length bc), (.slice ro s.reads.length rc)]⟩), (1, .int .i64 2), (2, .int .i64 ((i : Int))), (3, .slice ao n c)], [], []⟩
  subst hn
  refine SX.seq ?_
  refine SX.region ?_
  refine SXL.box rfl rfl ?_; intro b0
  refine SXL.assign rfl ?_
  refine SXL.assign rfl ?_
  refine SXL.nil ?_
  refine thenQ.normal ?_
  refine SX.seq ?_
  refine SX.seq ?_
  refine SX.region ?_
  refine SXL.move rfl ?_
  refine SXL.eqlI rfl rfl ?_
  refine SXL.nil ?_
  refine thenQ.normal ?_
  refine SX.condP rfl (fun c14 => ?_) (fun c14 => ?_)
  · exfalso; omega
  refine SX.skip ?_
  refine thenQ.normal ?_
  refine SX.seq ?_
  refine SX.seq ?_
  refine SX.region ?_
  refine SXL.move rfl ?_
  refine SXL.assign rfl ?_
  refine SXL.nil ?_
  refine thenQ.normal ?_
  refine SX.block ?_
  refine SX.loopG (α := Nat) [1, 3, 4, 8, 9] rfl (fun k => [(10, .int .i64 ((k : Int)))]) (fun k => []) (fun k => struckP s 2 i l = struckP s 2 k l ∧ (k ≤ s.reads.length ∨ k ≤ i)) (fun k => s.reads.length - k) i ⟨rfl, .inr (Nat.le_refl _)⟩ ⟨rfl, trivial⟩ rfl ?_
  rintro k ⟨hst, hkl⟩
  refine SX.seq ?_
  refine SX.seq ?_
  refine SX.region ?_
  refine SXL.move rfl ?_
  refine SXL.fieldAddr fp_27_6 rfl ?_
  refine SXL.load1o 0 sh_25 rfl rfl rfl ?_
  refine SXL.len is_25 rfl ?_
  refine SXL.lss rfl rfl ?_
  refine SXL.nil ?_
  refine thenQ.normal ?_
  refine SX.condP rfl (fun c2 => ?_) (fun c2 => ?_)
  · refine SX.skip ?_
    refine thenQ.normal ?_
    refine SX.seq ?_
    refine SX.block ?_
    refine SX.seq ?_
    have hk : k < s.reads.length := by omega
    obtain ⟨b, o, ha, hm⟩ := hs.readD hk
    refine SX.draw 22 (by kernel_rfl) (by kernel_rfl) ⟨[0, 1, 2, 3, 4, 5, 6, 8, 9, 10, 11, 12, 13, 14, 15, 16, 17, 18, 19, 20, 21], [true, false, false, false, false]⟩ ?_
    refine SXA.takeM 0 5 rfl (by kernel_rfl) rfl ?_
    refine SXL.loadNo 0 sh_27 rfl rfl rfl ?_
    refine SXL.move rfl ?_
    refine SXL.sub rfl rfl (by omega) ?_
    refine SXL.move rfl ?_
    refine SXL.add rfl rfl (by omega) ?_
    refine SXL.nil ⟨rfl, rfl, rfl, ?_⟩
    refine SXA.takeM 6 1 rfl (by kernel_rfl) rfl ?_
    refine SXL.move rfl ?_
    refine SXL.nil ⟨rfl, rfl, rfl, ?_⟩
    refine SXA.takeM 8 6 rfl (by kernel_rfl) rfl ?_
    refine SXL.fieldAddr fp_27_6 rfl ?_
    refine SXL.load1o 0 sh_25 rfl rfl rfl ?_
    refine SXL.move rfl ?_
    refine SXL.indexR el_25 rfl rfl ha (by omega) ?_
    refine SXL.fieldAddr fp_54_0 rfl ?_
    refine SXL.load1 sh_3 rfl ((hm _).sub (j := 0) (k := 1) rfl) ?_
    refine SXL.nil ⟨rfl, rfl, rfl, ?_⟩
    refine SXA.all [5, 14] (by kernel_rfl) rfl ⟨⟨?_, rfl⟩, ⟨?_, rfl⟩, trivial⟩
    · refine (show SXL _ _ [_] _ _ from ?_)
      refine SXL.buildSlice0 et_35 ?_; intro b1
      refine SXL.nil (stepQ.mk _ rfl rfl ?_)
      refine SXA.all [7, 14] (by kernel_rfl) rfl ⟨⟨?_, rfl⟩, ⟨?_, rfl⟩, trivial⟩
      · refine (show SXL _ _ [_] _ _ from ?_)
        refine SXL.appendE (some b1) ap_35 rfl rfl (onesSrc hl _) (by simp) (ints_isOne _) ⟨by simp only [maxLen]; omega, by omega⟩ ?_; intro r_36 o_36
        refine SXL.nil (stepQ.mkL _ (by kernel_rfl) rfl rfl ?_)
        refine SXA.all [14] (by kernel_rfl) rfl ⟨⟨?_, rfl⟩, trivial⟩
        refine (show SXL _ _ [_] _ _ from ?_)
        refine SXL.buildSlice et_35 zp_3 rfl rfl rfl rfl ?_; intro b3
        refine SXL.nil (stepQ.mk _ rfl rfl ?_)
        refine SXA.all [15] (by kernel_rfl) rfl ⟨⟨?_, rfl⟩, trivial⟩
        refine (show SXL _ _ [_] _ _ from ?_)
        refine SXL.append 2 ap_35 rfl rfl o_36 rfl (.inr ⟨_, _, rfl, Mem.own (i := 3) rfl (takeAt_all _)⟩) rfl rfl ⟨by simp only [maxLen]; omega, by omega⟩ ?_; intro r_44 o_44
        refine SXL.nil (stepQ.mkL _ (by kernel_rfl) rfl rfl ?_)
        refine SXA.all [16] (by kernel_rfl) rfl ⟨⟨?_, rfl⟩, trivial⟩
        refine (show SXL _ _ [_] _ _ from ?_)
        refine SXL.callF (FrR (struckP s 1 (k + 1) (l ++ [(s.reads.getD k default).num]))) fn_88 rfl (fun w hI => rstruck1 s bo ro bc rc hv (k + 1) (l ++ [(s.reads.getD k default).num]) r_44.addr (l.length + 1) r_44.cap (by simp) (by omega) w (hs.inv hI) (slOnes hI (l := (l ++ [(s.reads.getD k default).num])) (by rw [ints_snoc]; exact o_44) (i := 2) (by rw [ints_snoc]; rfl))) ?_; rintro _ _ ⟨q, oq, rfl, rfl⟩
        refine SXL.nil (stepQ.mk _ rfl rfl ?_)
        refine SXA.takeM 17 5 rfl (by kernel_rfl) rfl ?_
        refine SXL.move rfl ?_
        refine SXL.extract rfl rfl ?_
        refine SXL.extract rfl rfl ?_
        refine SXL.assign rfl ?_
        refine SXL.assign rfl ?_
        refine SXL.nil ⟨rfl, rfl, rfl, ?_⟩
        refine SXA.done (by kernel_rfl) ?_
        refine SXL.nil ?_
        refine thenQ.normal ?_
        refine SX.seq ?_
        refine SX.region ?_
        refine SXL.move rfl ?_
        refine SXL.nil ?_
        refine thenQ.normal ?_
        refine SX.condP rfl (fun c48 => ?_) (fun c48 => ?_)
        · refine SX.seq ?_
          refine SX.region ?_
          refine SXL.move rfl ?_
          refine SXL.assign rfl ?_
          refine SXL.assign rfl ?_
          refine SXL.nil ?_
          refine thenQ.normal ?_
          refine SX.ret ?_
          refine blockQ.ret ?_
          refine thenQ.ret ?_
          refine thenQ.ret ?_
          refine blockQ.ret ?_
          refine thenQ.ret ?_
          refine retQ.sel [4] rfl rfl ?_
          refine retQ.two (ResAt.tmp rfl) (ResAt.tmp rfl) ?_
          exact FrR.some (p := True) (hst.trans (by rw [struck_step hk, isSome_get c48]; rfl)) oq trivial
        · refine SX.skip ?_
          refine blockQ.normal ?_
          refine thenQ.normal ?_
          refine SX.region ?_
          refine SXL.move rfl ?_
          refine SXL.add rfl rfl (by omega) ?_
          refine SXL.assign rfl ?_
          refine SXL.nil ?_
          refine thenQ.normal ?_
          refine ⟨k + 1, Meets.mk _ ⟨rfl, trivial⟩ ⟨rfl, rfl, rfl, rfl, rfl, trivial⟩ rfl, ⟨by rw [hst, struck_step hk, isSome_false c48], .inl hk⟩, (by omega)⟩
      · refine (show SXL _ _ [_] _ _ from ?_)
        refine SXL.buildSlice et_35 zp_3 rfl rfl rfl rfl ?_; intro b2
        refine SXL.nil (stepQ.mk _ rfl rfl ?_)
        refine SXA.all [7] (by kernel_rfl) rfl ⟨⟨?_, rfl⟩, trivial⟩
        refine (show SXL _ _ [_] _ _ from ?_)
        refine SXL.appendE (some b1) ap_35 rfl rfl (onesSrc hl _) (by simp) (ints_isOne _) ⟨by simp only [maxLen]; omega, by omega⟩ ?_; intro r_36 o_36
        refine SXL.nil (stepQ.mkL _ (by kernel_rfl) rfl rfl ?_)
        refine SXA.all [15] (by kernel_rfl) rfl ⟨⟨?_, rfl⟩, trivial⟩
        refine (show SXL _ _ [_] _ _ from ?_)
        refine SXL.append 3 ap_35 rfl rfl o_36 rfl (.inr ⟨_, _, rfl, Mem.own (i := 2) rfl (takeAt_all _)⟩) rfl rfl ⟨by simp only [maxLen]; omega, by omega⟩ ?_; intro r_44 o_44
        refine SXL.nil (stepQ.mkL _ (by kernel_rfl) rfl rfl ?_)
        refine SXA.all [16] (by kernel_rfl) rfl ⟨⟨?_, rfl⟩, trivial⟩
        refine (show SXL _ _ [_] _ _ from ?_)
        refine SXL.callF (FrR (struckP s 1 (k + 1) (l ++ [(s.reads.getD k default).num]))) fn_88 rfl (fun w hI => rstruck1 s bo ro bc rc hv (k + 1) (l ++ [(s.reads.getD k default).num]) r_44.addr (l.length + 1) r_44.cap (by simp) (by omega) w (hs.inv hI) (slOnes hI (l := (l ++ [(s.reads.getD k default).num])) (by rw [ints_snoc]; exact o_44) (i := 3) (by rw [ints_snoc]; rfl))) ?_; rintro _ _ ⟨q, oq, rfl, rfl⟩
        refine SXL.nil (stepQ.mk _ rfl rfl ?_)
        refine SXA.takeM 17 5 rfl (by kernel_rfl) rfl ?_
        refine SXL.move rfl ?_
        refine SXL.extract rfl rfl ?_
        refine SXL.extract rfl rfl ?_
        refine SXL.assign rfl ?_
        refine SXL.assign rfl ?_
        refine SXL.nil ⟨rfl, rfl, rfl, ?_⟩
        refine SXA.done (by kernel_rfl) ?_
        refine SXL.nil ?_
        refine thenQ.normal ?_
        refine SX.seq ?_
        refine SX.region ?_
        refine SXL.move rfl ?_
        refine SXL.nil ?_
        refine thenQ.normal ?_
        refine SX.condP rfl (fun c48 => ?_) (fun c48 => ?_)
        · refine SX.seq ?_
          refine SX.region ?_
          refine SXL.move rfl ?_
          refine SXL.assign rfl ?_
          refine SXL.assign rfl ?_
          refine SXL.nil ?_
          refine thenQ.normal ?_
          refine SX.ret ?_
          refine blockQ.ret ?_
          refine thenQ.ret ?_
          refine thenQ.ret ?_
          refine blockQ.ret ?_
          refine thenQ.ret ?_
          refine retQ.sel [4] rfl rfl ?_
          refine retQ.two (ResAt.tmp rfl) (ResAt.tmp rfl) ?_
          exact FrR.some (p := True) (hst.trans (by rw [struck_step hk, isSome_get c48]; rfl)) oq trivial
        · refine SX.skip ?_
          refine blockQ.normal ?_
          refine thenQ.normal ?_
          refine SX.region ?_
          refine SXL.move rfl ?_
          refine SXL.add rfl rfl (by omega) ?_
          refine SXL.assign rfl ?_
          refine SXL.nil ?_
          refine thenQ.normal ?_
          refine ⟨k + 1, Meets.mk _ ⟨rfl, trivial⟩ ⟨rfl, rfl, rfl, rfl, rfl, trivial⟩ rfl, ⟨by rw [hst, struck_step hk, isSome_false c48], .inl hk⟩, (by omega)⟩
    · refine (show SXL _ _ [_] _ _ from ?_)
      refine SXL.buildSlice et_35 zp_3 rfl rfl rfl rfl ?_; intro b1
      refine SXL.nil (stepQ.mk _ rfl rfl ?_)
      refine SXA.all [5] (by kernel_rfl) rfl ⟨⟨?_, rfl⟩, trivial⟩
      refine (show SXL _ _ [_] _ _ from ?_)
      refine SXL.buildSlice0 et_35 ?_; intro b2
      refine SXL.nil (stepQ.mk _ rfl rfl ?_)
      refine SXA.all [7] (by kernel_rfl) rfl ⟨⟨?_, rfl⟩, trivial⟩
      refine (show SXL _ _ [_] _ _ from ?_)
      refine SXL.appendE (some b2) ap_35 rfl rfl (onesSrc hl _) (by simp) (ints_isOne _) ⟨by simp only [maxLen]; omega, by omega⟩ ?_; intro r_36 o_36
      refine SXL.nil (stepQ.mkL _ (by kernel_rfl) rfl rfl ?_)
      refine SXA.all [15] (by kernel_rfl) rfl ⟨⟨?_, rfl⟩, trivial⟩
      refine (show SXL _ _ [_] _ _ from ?_)
      refine SXL.append 3 ap_35 rfl rfl o_36 rfl (.inr ⟨_, _, rfl, Mem.own (i := 1) rfl (takeAt_all _)⟩) rfl rfl ⟨by simp only [maxLen]; omega, by omega⟩ ?_; intro r_44 o_44
      refine SXL.nil (stepQ.mkL _ (by kernel_rfl) rfl rfl ?_)
      refine SXA.all [16] (by kernel_rfl) rfl ⟨⟨?_, rfl⟩, trivial⟩
      refine (show SXL _ _ [_] _ _ from ?_)
      refine SXL.callF (FrR (struckP s 1 (k + 1) (l ++ [(s.reads.getD k default).num]))) fn_88 rfl (fun w hI => rstruck1 s bo ro bc rc hv (k + 1) (l ++ [(s.reads.getD k default).num]) r_44.addr (l.length + 1) r_44.cap (by simp) (by omega) w (hs.inv hI) (slOnes hI (l := (l ++ [(s.reads.getD k default).num])) (by rw [ints_snoc]; exact o_44) (i := 3) (by rw [ints_snoc]; rfl))) ?_; rintro _ _ ⟨q, oq, rfl, rfl⟩
      refine SXL.nil (stepQ.mk _ rfl rfl ?_)
      refine SXA.takeM 17 5 rfl (by kernel_rfl) rfl ?_
      refine SXL.move rfl ?_
      refine SXL.extract rfl rfl ?_
      refine SXL.extract rfl rfl ?_
      refine SXL.assign rfl ?_
      refine SXL.assign rfl ?_
      refine SXL.nil ⟨rfl, rfl, rfl, ?_⟩
      refine SXA.done (by kernel_rfl) ?_
      refine SXL.nil ?_
      refine thenQ.normal ?_
      refine SX.seq ?_
      refine SX.region ?_
      refine SXL.move rfl ?_
      refine SXL.nil ?_
      refine thenQ.normal ?_
      refine SX.condP rfl (fun c48 => ?_) (fun c48 => ?_)
      · refine SX.seq ?_
        refine SX.region ?_
        refine SXL.move rfl ?_
        refine SXL.assign rfl ?_
        refine SXL.assign rfl ?_
        refine SXL.nil ?_
        refine thenQ.normal ?_
        refine SX.ret ?_
        refine blockQ.ret ?_
        refine thenQ.ret ?_
        refine thenQ.ret ?_
        refine blockQ.ret ?_
        refine thenQ.ret ?_
        refine retQ.sel [4] rfl rfl ?_
        refine retQ.two (ResAt.tmp rfl) (ResAt.tmp rfl) ?_
        exact FrR.some (p := True) (hst.trans (by rw [struck_step hk, isSome_get c48]; rfl)) oq trivial
      · refine SX.skip ?_
        refine blockQ.normal ?_
        refine thenQ.normal ?_
        refine SX.region ?_
        refine SXL.move rfl ?_
        refine SXL.add rfl rfl (by omega) ?_
        refine SXL.assign rfl ?_
        refine SXL.nil ?_
        refine thenQ.normal ?_
        refine ⟨k + 1, Meets.mk _ ⟨rfl, trivial⟩ ⟨rfl, rfl, rfl, rfl, rfl, trivial⟩ rfl, ⟨by rw [hst, struck_step hk, isSome_false c48], .inl hk⟩, (by omega)⟩
  · refine SX.exit ?_
    refine thenQ.exit ?_
    refine thenQ.exit ?_
    refine blockQ.exit ?_
    refine thenQ.normal ?_
    refine SX.seq ?_
    refine SX.region ?_
    refine SXL.assign rfl ?_
    refine SXL.assign rfl ?_
    refine SXL.nil ?_
    refine thenQ.normal ?_
    refine SX.ret ?_
    refine retQ.dead [Sl.nil.ent 3 []] rfl ?_
    refine retQ.two (ResAt.tmp rfl) (ResAt.tmp rfl) ?_
    exact FrR.none (hst.trans (struck_done (by omega)))
theorem rstruckTop (s : Sp) (bo ro : Option Addr) (bc rc : Nat) (hv : SpP s) (m : Nat) (hm : m < 3) (w : World) (hs : SpAt w s bo ro) : CallsR Tryd.prog 88 [.agg ⟨[.int .i64 s.weeks, .int .i64 s.most, .int .i64 s.fall, .int .i64 s.a0, .int .i64 s.a1, .int .i64 s.w0, .int .i64 s.w1, (.slice bo s.book.length bc), (.slice ro s.reads.length rc)]⟩, .int .i64 (m : Int), .int .i64 0, .slice none 0 0] w (FrR (struckP s m 0 [])) := by
  match m, hm with
  | 0, _ =>
    refine (rstruck0 s bo ro bc rc hv 0 [] none 0 0 rfl (by omega) w hs (.nil _ _ _)).own0 fun v e => ?_
    subst e
    simp only [struckP]
    by_cases h : TrueP (wo s [])
    · rw [if_pos h]; exact ⟨Sl.nil, Sl.Ok.none _, by simp [Sl.val, Sl.nil, Sl.addr, h], rfl⟩
    · rw [if_neg h]; exact ⟨Sl.nil, Sl.Ok.none _, by simp [Sl.val, Sl.nil, Sl.addr, h], rfl⟩
  | 1, _ => exact rstruck1 s bo ro bc rc hv 0 [] none 0 0 rfl (by omega) w hs (.nil _ _ _)
  | 2, _ => exact rstruck2 s bo ro bc rc hv 0 [] none 0 0 rfl (by omega) w hs (.nil _ _ _)
set_option maxHeartbeats 2000000 in
theorem rwrong_any (s : Sp) (bo ro : Option Addr) (bc rc : Nat) (w : World) (hs : SpAt w s bo ro) :
    CallsR Tryd.prog 35 [.agg ⟨[.int .i64 s.weeks, .int .i64 s.most, .int .i64 s.fall, .int .i64 s.a0, .int .i64 s.a1, .int .i64 s.w0, .int .i64 s.w1, (.slice bo s.book.length bc), (.slice ro s.reads.length rc)]⟩] w (IsR2 (wrongL s) (wrongE s)) := by
  refine CallsR.of_SX (n := 29) (rs := [.tmp 2, .tmp 3]) Tryd.func35 rfl rfl rfl rfl ?_
  show SX _ _ _ ⟨[(0, .agg ⟨[.int .i64 s.weeks, .int .i64 s.most, .int .i64 s.fall, .int .i64 s.a0, .int .i64 s.a1, .int .i64 s.w0, .int .i64 s.w1, (.slice bo s.book.length bc), (.slice ro s.reads.length rc)]⟩)], [], []⟩
  refine SX.seq ?_
  refine SX.region ?_
  refine SXL.box rfl rfl ?_; intro b0
  refine SXL.assign rfl ?_
  refine SXL.assign rfl ?_
  refine SXL.nil ?_
  refine thenQ.normal ?_
  refine SX.seq ?_
  refine SX.seq ?_
  refine SX.region ?_
  refine SXL.loadNo 0 sh_27 rfl rfl rfl ?_
  refine SXL.call1 (.bool (decide (SpP s))) fn_74 rfl (fun w hI => spring_any s bo ro bc rc _ (hs.inv hI)) ?_
  refine SXL.not rfl ?_
  refine SXL.nil ?_
  refine thenQ.normal ?_
  refine SX.condP rfl (fun c10 => ?_) (fun c10 => ?_)
  · refine SX.seq ?_
    refine SX.region ?_
    refine SXL.assign rfl ?_
    refine SXL.assign rfl ?_
    refine SXL.nil ?_
    refine thenQ.normal ?_
    refine SX.ret ?_
    refine thenQ.ret ?_
    refine retQ.dead [Sl.nil.ent 3 []] rfl ?_
    refine retQ.two (ResAt.tmp rfl) (ResAt.tmp rfl) ?_
    rw [wrongL, if_neg c10, wrongE, if_pos c10]; exact ⟨Sl.nil, Sl.Ok.none _, rfl, rfl⟩
  · refine SX.skip ?_
    refine thenQ.normal ?_
    refine SX.seq ?_
    refine SX.seq ?_
    have hv : SpP s := Decidable.not_not.1 c10
    have hH := hv.1
    unfold HeadP at hH
    refine SX.region ?_
    refine SXL.assign rfl ?_
    refine SXL.nil ?_
    refine thenQ.normal ?_
    refine SX.block ?_
    refine SX.loopG (α := Nat) [1, 2, 3] rfl (fun m => [(4, .int .i64 ((m : Int)))]) (fun m => []) (fun m => m ≤ 3 ∧ ∀ k, k < m → struckP s k 0 [] = none) (fun m => 3 - m) 0 ⟨by omega, fun k h => absurd h (Nat.not_lt_zero _)⟩ ⟨rfl, trivial⟩ rfl ?_
    rintro m ⟨hm3, hall⟩
    refine SX.seq ?_
    refine SX.seq ?_
    refine SX.region ?_
    refine SXL.move rfl ?_
    refine SXL.leq rfl rfl ?_
    refine SXL.nil ?_
    refine thenQ.normal ?_
    refine SX.condP rfl (fun c2 => ?_) (fun c2 => ?_)
    · refine SX.skip ?_
      refine thenQ.normal ?_
      refine SX.seq ?_
      refine SX.block ?_
      refine SX.seq ?_
      refine SX.region ?_
      refine SXL.loadNo 0 sh_27 rfl rfl rfl ?_
      refine SXL.move rfl ?_
      refine SXL.callF (FrR (struckP s m 0 [])) fn_88 rfl (fun w hI => rstruckTop s bo ro bc rc hv m (by omega) w (hs.inv hI)) ?_; rintro _ _ ⟨q, oq, rfl, rfl⟩
      refine SXL.move rfl ?_
      refine SXL.extract rfl rfl ?_
      refine SXL.extract rfl rfl ?_
      refine SXL.assign rfl ?_
      refine SXL.assign rfl ?_
      refine SXL.nil ?_
      refine thenQ.normal ?_
      refine SX.seq ?_
      refine SX.region ?_
      refine SXL.move rfl ?_
      refine SXL.nil ?_
      refine thenQ.normal ?_
      refine SX.condP rfl (fun c21 => ?_) (fun c21 => ?_)
      · refine SX.seq ?_
        refine SX.region ?_
        refine SXL.move rfl ?_
        refine SXL.assign rfl ?_
        refine SXL.assign rfl ?_
        refine SXL.nil ?_
        refine thenQ.normal ?_
        refine SX.ret ?_
        refine blockQ.ret ?_
        refine thenQ.ret ?_
        refine thenQ.ret ?_
        refine blockQ.ret ?_
        refine thenQ.ret ?_
        refine retQ.sel [1] rfl rfl ?_
        refine retQ.two (ResAt.tmp rfl) (ResAt.tmp rfl) ?_
        have hw := wrongF_at (by omega) hall (isSome_get c21)
        rw [wrongL, if_pos hv, hw, wrongE, if_neg (not_not_intro hv), hw]; exact ⟨q, oq, rfl, rfl⟩
      · refine SX.skip ?_
        refine blockQ.normal ?_
        refine thenQ.normal ?_
        refine SX.region ?_
        refine SXL.move rfl ?_
        refine SXL.add rfl rfl (by omega) ?_
        refine SXL.assign rfl ?_
        refine SXL.nil ?_
        refine thenQ.normal ?_
        refine ⟨m + 1, Meets.mk _ ⟨rfl, trivial⟩ ⟨rfl, rfl, rfl, trivial⟩ rfl, ⟨by omega, fun k hk => by
          by_cases e : k = m
          · subst e; exact isSome_false c21
          · exact hall k (by omega)⟩, (by omega)⟩
    · refine SX.exit ?_
      refine thenQ.exit ?_
      refine thenQ.exit ?_
      refine blockQ.exit ?_
      refine thenQ.normal ?_
      refine SX.seq ?_
      have hnone : wrongF s = none := wrongF_no fun k hk => hall k (by omega)
      refine SX.region ?_
      refine SXL.loadNo 0 sh_27 rfl rfl rfl ?_
      refine SXL.callF (SpR s) fn_17 rfl (fun w hI => twin_any s bo ro bc rc (by omega) (by omega) w (hs.inv hI)) ?_; rintro _ _ ⟨r1, r2, o1, o2, rfl, rfl⟩
      refine SXL.alloc zp_27 ?_; intro b3
      refine SXL.store 3 sz_27 rfl rfl rfl rfl rfl rfl ?_
      refine SXL.nil ?_
      refine thenQ.normal ?_
      refine SX.seq ?_
      refine SX.region ?_
      refine SXL.fieldAddr fp_27_6 rfl ?_
      refine SXL.store 3 sz_25 rfl rfl rfl rfl rfl rfl ?_
      refine SXL.nil ?_
      refine thenQ.normal ?_
      refine SX.seq ?_
      refine SX.seq ?_
      refine SX.region ?_
      refine SXL.loadNo 3 sh_27 rfl rfl rfl ?_
      refine SXL.call1 (.bool (decide (TrueP { s with reads := [] }))) fn_60 rfl (fun w hI => true_any { s with reads := [] } r1.addr none r1.cap 0 (wo_all ▸ wo_valid hv (numsL s)) _ ⟨(spAtOwn hI o1 o2 (i := 1) (j := 2) rfl rfl).book, .nil _ _ _⟩) ?_
      refine SXL.not rfl ?_
      refine SXL.nil ?_
      refine thenQ.normal ?_
      refine SX.condP rfl (fun c28 => ?_) (fun c28 => ?_)
      · refine SX.seq ?_
        refine SX.region ?_
        refine SXL.assign rfl ?_
        refine SXL.assign rfl ?_
        refine SXL.nil ?_
        refine thenQ.normal ?_
        refine SX.ret ?_
        refine thenQ.ret ?_
        refine retQ.dead [Sl.nil.ent 3 []] rfl ?_
        refine retQ.two (ResAt.tmp rfl) (ResAt.tmp rfl) ?_
        rw [wrongL, if_pos hv, wrongE, if_neg (not_not_intro hv), hnone, if_neg (by simp), if_pos c28]; exact ⟨Sl.nil, Sl.Ok.none _, rfl, rfl⟩
      · refine SX.skip ?_
        refine thenQ.normal ?_
        refine SX.seq ?_
        refine SX.region ?_
        refine SXL.assign rfl ?_
        refine SXL.assign rfl ?_
        refine SXL.nil ?_
        refine thenQ.normal ?_
        refine SX.ret ?_
        refine retQ.dead [Sl.nil.ent 3 []] rfl ?_
        refine retQ.two (ResAt.tmp rfl) (ResAt.tmp rfl) ?_
        rw [wrongL, if_pos hv, wrongE, if_neg (not_not_intro hv), hnone, if_neg (by simp), if_neg c28]; exact ⟨Sl.nil, Sl.Ok.none _, rfl, rfl⟩
/-- What the closure that strikes finds: the spring, itself. -/
structure StAt (w : World) (s : Sp) (bo ro : Option Addr) (bc rc b3 b4 : Nat) : Prop where
  sp : ∀ j v, (sp9 s bo ro bc rc)[j]? = some v → w.cell? ⟨b3, 0 + j, none⟩ = some v
  fn : w.cell? ⟨b4, 0, none⟩ = some (.func (.func 86) ⟨[]⟩ ⟨[.pointer (some ⟨b3, 0, none⟩), .pointer (some ⟨b4, 0, none⟩)]⟩)
theorem StAt.inv {w0 w : World} {own : X.Own} {s : Sp} {bo ro : Option Addr} {bc rc b3 b4 : Nat} (h : StAt w0 s bo ro bc rc b3 b4) (hI : Inv w0 own w) : StAt w s bo ro bc rc b3 b4 :=
  ⟨fun j v hj => cell_keep (h.sp j v hj) hI.below, cell_keep h.fn hI.below⟩
theorem strike0 (s : Sp) (bo ro : Option Addr) (bc rc : Nat) (b3 b4 : Nat) (hv : SpP s) (i : Nat) (l : List Int) (ao : Option Addr) (n c : Nat) (hn : l.length = n) (hn2 : n + 0 ≤ 1000) (lao : Option Addr) (ln lc : Nat) (_hln : ln = s.reads.length - i) (_hlc : ln ≤ lc) (w : World) (hg : Gl w) (hs : SpAt w s bo ro) (hst0 : StAt w s bo ro bc rc b3 b4) (hl : RowsAt w ao 1 (ones l)) (_hll : RowsAt w lao 1 (ones ((numsL s).drop i))) :
    CallsR Tryd.prog 86 [.slice ao n c, .slice lao ln lc, .int .i64 0, .pointer (some ⟨b3, 0, none⟩), .pointer (some ⟨b4, 0, none⟩)] w (fun v _ => v = .tuple ⟨[.slice ao n c, .bool (decide (SpP (wo s l) ∧ TrueP (wo s l)))]⟩) := by
  have hH := hv.1
  unfold HeadP at hH
  refine CallsR.of_SX (n := 53) (rs := [.tmp 8, .tmp 9]) Tryd.func86 rfl rfl rfl rfl ?_
  show SX _ _ _ ⟨[(0, .slice ao n c), (1, .slice lao ln lc), (2, .int .i64 0), (3, .pointer (some ⟨b3, 0, none⟩)), (4, .pointer (some ⟨b4, 0, none⟩))], [], []⟩
  subst hn
  refine SX.seq ?_
  refine SX.region ?_
  refine SXL.assign rfl ?_
  refine SXL.assign rfl ?_
  refine SXL.nil ?_
  refine thenQ.normal ?_
  refine SX.seq ?_
  refine SX.seq ?_
  refine SX.region ?_
  refine SXL.move rfl ?_
  refine SXL.eqlI rfl rfl ?_
  refine SXL.nil ?_
  refine thenQ.normal ?_
  refine SX.condP rfl (fun c17 => ?_) (fun c17 => ?_)
  rotate_left
  · exfalso; exact c17 rfl
  refine SX.seq ?_
  refine SX.region ?_
  refine SXL.loadN sh_27 rfl (Mem.out hst0.sp) rfl ?_
  refine SXL.move rfl ?_
  refine SXL.callF (SpR (wo s l)) fn_84 rfl (fun w hI => swithout_any s bo ro bc rc l ao c (by omega) (by omega) (by omega) (nums_nodup hv.2.2) w (hs.inv hI) (hl.inv hI)) ?_; rintro _ _ ⟨r1, r2, o1, o2, rfl, rfl⟩
  refine SXL.call1 (.tuple ⟨[.bool (decide (SpP (wo s l) ∧ TrueP (wo s l))), .int .i64 (if SpP (wo s l) then 0 else 10)]⟩) fn_18 rfl (fun w hI => scan_any (wo s l) r1.addr r2.addr r1.cap r2.cap (show s.book.length ≤ _ by omega) (by have := keepR_len s.reads l; show (keepR _ _).length ≤ _; omega) _ (hg.inv hI) (spAtOwn hI o1 o2 (i := 0) (j := 1) rfl rfl)) ?_
  refine SXL.move rfl ?_
  refine SXL.extract rfl rfl ?_
  refine SXL.extract rfl rfl ?_
  refine SXL.assign rfl ?_
  refine SXL.assign rfl ?_
  refine SXL.nil ?_
  refine thenQ.normal ?_
  refine SX.seq ?_
  refine SX.region ?_
  refine SXL.move rfl ?_
  refine SXL.move rfl ?_
  refine SXL.assign rfl ?_
  refine SXL.assign rfl ?_
  refine SXL.nil ?_
  refine thenQ.normal ?_
  refine SX.ret ?_
  refine thenQ.ret ?_
  refine retQ.dead [] rfl ?_
  refine retQ.two (ResAt.tmp rfl) (ResAt.tmp rfl) ?_
  rfl
set_option maxHeartbeats 2000000 in
theorem strike1 (s : Sp) (bo ro : Option Addr) (bc rc : Nat) (b3 b4 : Nat) (hv : SpP s) (i : Nat) (l : List Int) (ao : Option Addr) (n c : Nat) (hn : l.length = n) (hn2 : n + 1 ≤ 1000) (lao : Option Addr) (ln lc : Nat) (hln : ln = s.reads.length - i) (hlc : ln ≤ lc) (w : World) (hg : Gl w) (hs : SpAt w s bo ro) (hst0 : StAt w s bo ro bc rc b3 b4) (hl : RowsAt w ao 1 (ones l)) (hll : RowsAt w lao 1 (ones ((numsL s).drop i))) :
    CallsR Tryd.prog 86 [.slice ao n c, .slice lao ln lc, .int .i64 1, .pointer (some ⟨b3, 0, none⟩), .pointer (some ⟨b4, 0, none⟩)] w (FrR (struckP s 1 i l)) := by
  have hH := hv.1
  unfold HeadP at hH
  refine CallsR.of_SX (n := 53) (rs := [.tmp 8, .tmp 9]) Tryd.func86 rfl rfl rfl rfl ?_
  show SX _ _ _ ⟨[(0, .slice ao n c), (1, .slice lao ln lc), (2, .int .i64 1), (3, .pointer (some ⟨b3, 0, none⟩)), (4, .pointer (some ⟨b4, 0, none⟩))], [], []⟩
  subst hn
  have hnl := length_numsL s
  refine SX.seq ?_
  refine SX.region ?_
  refine SXL.assign rfl ?_
  refine SXL.assign rfl ?_
  refine SXL.nil ?_
  refine thenQ.normal ?_
  refine SX.seq ?_
  refine SX.seq ?_
  refine SX.region ?_
  refine SXL.move rfl ?_
  refine SXL.eqlI rfl rfl ?_
  refine SXL.nil ?_
  refine thenQ.normal ?_
  refine SX.condP rfl (fun c17 => ?_) (fun c17 => ?_)
  · exfalso; omega
  refine SX.skip ?_
  refine thenQ.normal ?_
  refine SX.seq ?_
  refine SX.seq ?_
  refine SX.region ?_
  refine SXL.move rfl ?_
  refine SXL.len is_35 rfl ?_
  refine SXL.move rfl ?_
  refine SXL.nil ?_
  refine thenQ.normal ?_
  refine SX.block ?_
  refine SX.loopG (α := Nat) [0, 1, 2, 4, 8, 9, 27, 28] rfl (fun k => [(29, .int .i64 ((k : Int)))]) (fun k => []) (fun k => struckP s 1 i l = struckP s 1 (i + k) l ∧ k ≤ ln) (fun k => ln - k) 0 ⟨rfl, Nat.zero_le _⟩ ⟨rfl, trivial⟩ rfl ?_
  rintro k ⟨hst, hkl⟩
  refine SX.seq ?_
  refine SX.region ?_
  refine SXL.lss rfl rfl ?_
  refine SXL.nil ?_
  refine thenQ.normal ?_
  refine SX.seq ?_
  refine SX.condP rfl (fun c2 => ?_) (fun c2 => ?_)
  · refine SX.skip ?_
    refine thenQ.normal ?_
    refine SX.seq ?_
    refine SX.block ?_
    refine SX.seq ?_
    have hk : i + k < s.reads.length := by omega
    obtain ⟨b, o, ha, hm⟩ := oneI hll (i := k) (by simp; omega)
    have ex : ((numsL s).drop i).getD k 0 = (s.reads.getD (i + k) default).num := by simp [numsL, hk]
    rw [ex] at hm
    refine SX.region ?_
    refine SXL.move rfl ?_
    refine SXL.indexR el_35 rfl rfl ha (by omega) ?_
    refine SXL.load1 sh_3 rfl (hm _) ?_
    refine SXL.assign rfl ?_
    refine SXL.assign rfl ?_
    refine SXL.nil ?_
    refine thenQ.normal ?_
    refine SX.seq ?_
    refine SX.draw 18 (by kernel_rfl) (by kernel_rfl) ⟨[0, 1, 3, 6, 7, 8, 9, 10, 11, 12, 13, 14, 15, 16, 17], [false, false]⟩ ?_
    refine SXA.takeM 0 2 rfl (by kernel_rfl) rfl ?_
    refine SXL.load1 sh_135 rfl (Mem.out1 hst0.fn) ?_
    refine SXL.move rfl ?_
    refine SXL.nil ⟨rfl, rfl, rfl, ?_⟩
    refine SXA.takeM 3 1 rfl (by kernel_rfl) rfl ?_
    refine SXL.move rfl ?_
    refine SXL.nil ⟨rfl, rfl, rfl, ?_⟩
    refine SXA.takeM 6 6 rfl (by kernel_rfl) rfl ?_
    refine SXL.move rfl ?_
    refine SXL.move rfl ?_
    refine SXL.add rfl rfl (by omega) ?_
    refine SXL.sliceL el_35 rfl rfl (by omega) ?_
    refine SXL.move rfl ?_
    refine SXL.sub rfl rfl (by omega) ?_
    refine SXL.nil ⟨rfl, rfl, rfl, ?_⟩
    refine SXA.all [2, 4] (by kernel_rfl) rfl ⟨⟨?_, rfl⟩, ⟨?_, rfl⟩, trivial⟩
    · refine (show SXL _ _ [_] _ _ from ?_)
      refine SXL.callF (IsI l) fn_87 rfl (fun w hI => cloneInts l ao c (by omega) w (hl.inv hI)) ?_; rintro _ _ ⟨r37, o37, rfl, rfl⟩
      refine SXL.nil (stepQ.mk _ rfl rfl ?_)
      refine SXA.all [4] (by kernel_rfl) rfl ⟨⟨?_, rfl⟩, trivial⟩
      refine (show SXL _ _ [_] _ _ from ?_)
      refine SXL.buildSlice et_35 zp_3 rfl rfl rfl rfl ?_; intro b1
      refine SXL.nil (stepQ.mk _ rfl rfl ?_)
      refine SXA.all [5] (by kernel_rfl) rfl ⟨⟨?_, rfl⟩, trivial⟩
      refine (show SXL _ _ [_] _ _ from ?_)
      refine SXL.append 0 ap_35 rfl rfl o37 rfl (.inr ⟨_, _, rfl, Mem.own (i := 1) rfl (takeAt_all _)⟩) rfl rfl ⟨by simp only [maxLen]; omega, by omega⟩ ?_; intro r_40 o_40
      refine SXL.nil (stepQ.mkL _ (by kernel_rfl) rfl rfl ?_)
      refine SXA.all [12] (by kernel_rfl) rfl ⟨⟨?_, rfl⟩, trivial⟩
      refine (show SXL _ _ [_] _ _ from ?_)
      refine SXL.callV (fun v _ => v = .tuple ⟨[r_40.val (l.length + 1), .bool (decide (SpP (wo s (l ++ [(s.reads.getD (i + k) default).num])) ∧ TrueP (wo s (l ++ [(s.reads.getD (i + k) default).num]))))]⟩) fn_86 rfl rfl (fun w hI => strike0 s bo ro bc rc b3 b4 hv (i + k + 1) (l ++ [(s.reads.getD (i + k) default).num]) r_40.addr (l.length + 1) r_40.cap (by simp) (by omega) (cutAddr lao (k + 1) lc 1) (ln - (k + 1)) (lc - (k + 1)) (by omega) (by omega) w (hg.inv hI) (hs.inv hI) (hst0.inv hI) (slOnes hI (l := (l ++ [(s.reads.getD (i + k) default).num])) (by rw [ints_snoc]; exact o_40) (i := 0) (by rw [ints_snoc]; rfl)) (by have := (RowsAt.cut1 hll (i := k + 1) (c := lc) (by simp; omega)).inv hI; rwa [List.drop_drop] at this)) ?_; rintro _ ow rfl
      refine SXL.nil (stepQ.mk _ rfl rfl ?_)
      refine SXA.takeM 13 5 rfl (by kernel_rfl) rfl ?_
      refine SXL.move rfl ?_
      refine SXL.extract rfl rfl ?_
      refine SXL.extract rfl rfl ?_
      refine SXL.assign rfl ?_
      refine SXL.assign rfl ?_
      refine SXL.nil ⟨rfl, rfl, rfl, ?_⟩
      refine SXA.done (by kernel_rfl) ?_
      refine SXL.nil ?_
      refine thenQ.normal ?_
      refine SX.seq ?_
      refine SX.region ?_
      refine SXL.move rfl ?_
      refine SXL.nil ?_
      refine thenQ.normal ?_
      refine SX.condP rfl (fun c50 => ?_) (fun c50 => ?_)
      · refine SX.seq ?_
        refine SX.region ?_
        refine SXL.move rfl ?_
        refine SXL.assign rfl ?_
        refine SXL.assign rfl ?_
        refine SXL.nil ?_
        refine thenQ.normal ?_
        refine SX.ret ?_
        refine blockQ.ret ?_
        refine thenQ.ret ?_
        refine thenQ.ret ?_
        refine blockQ.ret ?_
        refine thenQ.ret ?_
        refine retQ.sel [0] rfl rfl ?_
        refine retQ.two (ResAt.tmp rfl) (ResAt.tmp rfl) ?_
        refine Eq.mp (congrArg (fun c => FrR _ _ [Sl.ent r_40 3 c]) (ints_snoc l (s.reads.getD (i + k) default).num)) ?_
        exact FrR.some (p := True) (hst.trans (by rw [struck_step hk]; simp only [struckP, if_pos c50.2])) (by rw [ints_snoc]; exact o_40) trivial
      · refine SX.skip ?_
        refine blockQ.normal ?_
        refine thenQ.normal ?_
        refine SX.region ?_
        refine SXL.add rfl rfl (by omega) ?_
        refine SXL.move rfl ?_
        refine SXL.nil ?_
        refine thenQ.normal ?_
        refine ⟨k + 1, Meets.mk _ ⟨rfl, trivial⟩ ⟨rfl, rfl, rfl, rfl, rfl, rfl, rfl, rfl, trivial⟩ rfl, ⟨by rw [hst, struck_step hk]; simp only [struckP, if_neg (fun h => c50 ⟨wo_valid hv _, h⟩)]; rfl, by omega⟩, (by omega)⟩
    · refine (show SXL _ _ [_] _ _ from ?_)
      refine SXL.buildSlice et_35 zp_3 rfl rfl rfl rfl ?_; intro b0
      refine SXL.nil (stepQ.mk _ rfl rfl ?_)
      refine SXA.all [2] (by kernel_rfl) rfl ⟨⟨?_, rfl⟩, trivial⟩
      refine (show SXL _ _ [_] _ _ from ?_)
      refine SXL.callF (IsI l) fn_87 rfl (fun w hI => cloneInts l ao c (by omega) w (hl.inv hI)) ?_; rintro _ _ ⟨r37, o37, rfl, rfl⟩
      refine SXL.nil (stepQ.mk _ rfl rfl ?_)
      refine SXA.all [5] (by kernel_rfl) rfl ⟨⟨?_, rfl⟩, trivial⟩
      refine (show SXL _ _ [_] _ _ from ?_)
      refine SXL.append 1 ap_35 rfl rfl o37 rfl (.inr ⟨_, _, rfl, Mem.own (i := 0) rfl (takeAt_all _)⟩) rfl rfl ⟨by simp only [maxLen]; omega, by omega⟩ ?_; intro r_40 o_40
      refine SXL.nil (stepQ.mkL _ (by kernel_rfl) rfl rfl ?_)
      refine SXA.all [12] (by kernel_rfl) rfl ⟨⟨?_, rfl⟩, trivial⟩
      refine (show SXL _ _ [_] _ _ from ?_)
      refine SXL.callV (fun v _ => v = .tuple ⟨[r_40.val (l.length + 1), .bool (decide (SpP (wo s (l ++ [(s.reads.getD (i + k) default).num])) ∧ TrueP (wo s (l ++ [(s.reads.getD (i + k) default).num]))))]⟩) fn_86 rfl rfl (fun w hI => strike0 s bo ro bc rc b3 b4 hv (i + k + 1) (l ++ [(s.reads.getD (i + k) default).num]) r_40.addr (l.length + 1) r_40.cap (by simp) (by omega) (cutAddr lao (k + 1) lc 1) (ln - (k + 1)) (lc - (k + 1)) (by omega) (by omega) w (hg.inv hI) (hs.inv hI) (hst0.inv hI) (slOnes hI (l := (l ++ [(s.reads.getD (i + k) default).num])) (by rw [ints_snoc]; exact o_40) (i := 1) (by rw [ints_snoc]; rfl)) (by have := (RowsAt.cut1 hll (i := k + 1) (c := lc) (by simp; omega)).inv hI; rwa [List.drop_drop] at this)) ?_; rintro _ ow rfl
      refine SXL.nil (stepQ.mk _ rfl rfl ?_)
      refine SXA.takeM 13 5 rfl (by kernel_rfl) rfl ?_
      refine SXL.move rfl ?_
      refine SXL.extract rfl rfl ?_
      refine SXL.extract rfl rfl ?_
      refine SXL.assign rfl ?_
      refine SXL.assign rfl ?_
      refine SXL.nil ⟨rfl, rfl, rfl, ?_⟩
      refine SXA.done (by kernel_rfl) ?_
      refine SXL.nil ?_
      refine thenQ.normal ?_
      refine SX.seq ?_
      refine SX.region ?_
      refine SXL.move rfl ?_
      refine SXL.nil ?_
      refine thenQ.normal ?_
      refine SX.condP rfl (fun c50 => ?_) (fun c50 => ?_)
      · refine SX.seq ?_
        refine SX.region ?_
        refine SXL.move rfl ?_
        refine SXL.assign rfl ?_
        refine SXL.assign rfl ?_
        refine SXL.nil ?_
        refine thenQ.normal ?_
        refine SX.ret ?_
        refine blockQ.ret ?_
        refine thenQ.ret ?_
        refine thenQ.ret ?_
        refine blockQ.ret ?_
        refine thenQ.ret ?_
        refine retQ.sel [1] rfl rfl ?_
        refine retQ.two (ResAt.tmp rfl) (ResAt.tmp rfl) ?_
        refine Eq.mp (congrArg (fun c => FrR _ _ [Sl.ent r_40 3 c]) (ints_snoc l (s.reads.getD (i + k) default).num)) ?_
        exact FrR.some (p := True) (hst.trans (by rw [struck_step hk]; simp only [struckP, if_pos c50.2])) (by rw [ints_snoc]; exact o_40) trivial
      · refine SX.skip ?_
        refine blockQ.normal ?_
        refine thenQ.normal ?_
        refine SX.region ?_
        refine SXL.add rfl rfl (by omega) ?_
        refine SXL.move rfl ?_
        refine SXL.nil ?_
        refine thenQ.normal ?_
        refine ⟨k + 1, Meets.mk _ ⟨rfl, trivial⟩ ⟨rfl, rfl, rfl, rfl, rfl, rfl, rfl, rfl, trivial⟩ rfl, ⟨by rw [hst, struck_step hk]; simp only [struckP, if_neg (fun h => c50 ⟨wo_valid hv _, h⟩)]; rfl, by omega⟩, (by omega)⟩
  · refine SX.exit ?_
    refine thenQ.exit ?_
    refine thenQ.exit ?_
    refine blockQ.exit ?_
    refine thenQ.normal ?_
    refine SX.seq ?_
    refine SX.region ?_
    refine SXL.assign rfl ?_
    refine SXL.assign rfl ?_
    refine SXL.nil ?_
    refine thenQ.normal ?_
    refine SX.ret ?_
    refine retQ.dead [Sl.nil.ent 3 []] rfl ?_
    refine retQ.two (ResAt.tmp rfl) (ResAt.tmp rfl) ?_
    exact FrR.none (hst.trans (struck_done (by omega)))
set_option maxHeartbeats 2000000 in
theorem strike2 (s : Sp) (bo ro : Option Addr) (bc rc : Nat) (b3 b4 : Nat) (hv : SpP s) (i : Nat) (l : List Int) (ao : Option Addr) (n c : Nat) (hn : l.length = n) (hn2 : n + 2 ≤ 1000) (lao : Option Addr) (ln lc : Nat) (hln : ln = s.reads.length - i) (hlc : ln ≤ lc) (w : World) (hg : Gl w) (hs : SpAt w s bo ro) (hst0 : StAt w s bo ro bc rc b3 b4) (hl : RowsAt w ao 1 (ones l)) (hll : RowsAt w lao 1 (ones ((numsL s).drop i))) :
    CallsR Tryd.prog 86 [.slice ao n c, .slice lao ln lc, .int .i64 2, .pointer (some ⟨b3, 0, none⟩), .pointer (some ⟨b4, 0, none⟩)] w (FrR (struckP s 2 i l)) := by
  have hH := hv.1
  unfold HeadP at hH
  refine CallsR.of_SX (n := 53) (rs := [.tmp 8, .tmp 9]) Tryd.func86 rfl rfl rfl rfl ?_
  show SX _ _ _ ⟨[(0, .slice ao n c), (1, .slice lao ln lc), (2, .int .i64 2), (3, .pointer (some ⟨b3, 0, none⟩)), (4, .pointer (some ⟨b4, 0, none⟩))], [], []⟩
  subst hn
  have hnl := length_numsL s
  refine SX.seq ?_
  refine SX.region ?_
  refine SXL.assign rfl ?_
  refine SXL.assign rfl ?_
  refine SXL.nil ?_
  refine thenQ.normal ?_
  refine SX.seq ?_
  refine SX.seq ?_
  refine SX.region ?_
  refine SXL.move rfl ?_
  refine SXL.eqlI rfl rfl ?_
  refine SXL.nil ?_
  refine thenQ.normal ?_
  refine SX.condP rfl (fun c17 => ?_) (fun c17 => ?_)
  · exfalso; omega
  refine SX.skip ?_
  refine thenQ.normal ?_
  refine SX.seq ?_
  refine SX.seq ?_
  refine SX.region ?_
  refine SXL.move rfl ?_
  refine SXL.len is_35 rfl ?_
  refine SXL.move rfl ?_
  refine SXL.nil ?_
  refine thenQ.normal ?_
  refine SX.block ?_
  refine SX.loopG (α := Nat) [0, 1, 2, 4, 8, 9, 27, 28] rfl (fun k => [(29, .int .i64 ((k : Int)))]) (fun k => []) (fun k => struckP s 2 i l = struckP s 2 (i + k) l ∧ k ≤ ln) (fun k => ln - k) 0 ⟨rfl, Nat.zero_le _⟩ ⟨rfl, trivial⟩ rfl ?_
  rintro k ⟨hst, hkl⟩
  refine SX.seq ?_
  refine SX.region ?_
  refine SXL.lss rfl rfl ?_
  refine SXL.nil ?_
  refine thenQ.normal ?_
  refine SX.seq ?_
  refine SX.condP rfl (fun c2 => ?_) (fun c2 => ?_)
  · refine SX.skip ?_
    refine thenQ.normal ?_
    refine SX.seq ?_
    refine SX.block ?_
    refine SX.seq ?_
    have hk : i + k < s.reads.length := by omega
    obtain ⟨b, o, ha, hm⟩ := oneI hll (i := k) (by simp; omega)
    have ex : ((numsL s).drop i).getD k 0 = (s.reads.getD (i + k) default).num := by simp [numsL, hk]
    rw [ex] at hm
    refine SX.region ?_
    refine SXL.move rfl ?_
    refine SXL.indexR el_35 rfl rfl ha (by omega) ?_
    refine SXL.load1 sh_3 rfl (hm _) ?_
    refine SXL.assign rfl ?_
    refine SXL.assign rfl ?_
    refine SXL.nil ?_
    refine thenQ.normal ?_
    refine SX.seq ?_
    refine SX.draw 18 (by kernel_rfl) (by kernel_rfl) ⟨[0, 1, 3, 6, 7, 8, 9, 10, 11, 12, 13, 14, 15, 16, 17], [false, false, false]⟩ ?_
    refine SXA.takeM 0 2 rfl (by kernel_rfl) rfl ?_
    refine SXL.load1 sh_135 rfl (Mem.out1 hst0.fn) ?_
    refine SXL.move rfl ?_
    refine SXL.nil ⟨rfl, rfl, rfl, ?_⟩
    refine SXA.takeM 3 1 rfl (by kernel_rfl) rfl ?_
    refine SXL.move rfl ?_
    refine SXL.nil ⟨rfl, rfl, rfl, ?_⟩
    refine SXA.takeM 6 6 rfl (by kernel_rfl) rfl ?_
    refine SXL.move rfl ?_
    refine SXL.move rfl ?_
    refine SXL.add rfl rfl (by omega) ?_
    refine SXL.sliceL el_35 rfl rfl (by omega) ?_
    refine SXL.move rfl ?_
    refine SXL.sub rfl rfl (by omega) ?_
    refine SXL.nil ⟨rfl, rfl, rfl, ?_⟩
    refine SXA.all [2, 4] (by kernel_rfl) rfl ⟨⟨?_, rfl⟩, ⟨?_, rfl⟩, trivial⟩
    · refine (show SXL _ _ [_] _ _ from ?_)
      refine SXL.callF (IsI l) fn_87 rfl (fun w hI => cloneInts l ao c (by omega) w (hl.inv hI)) ?_; rintro _ _ ⟨r37, o37, rfl, rfl⟩
      refine SXL.nil (stepQ.mk _ rfl rfl ?_)
      refine SXA.all [4] (by kernel_rfl) rfl ⟨⟨?_, rfl⟩, trivial⟩
      refine (show SXL _ _ [_] _ _ from ?_)
      refine SXL.buildSlice et_35 zp_3 rfl rfl rfl rfl ?_; intro b1
      refine SXL.nil (stepQ.mk _ rfl rfl ?_)
      refine SXA.all [5] (by kernel_rfl) rfl ⟨⟨?_, rfl⟩, trivial⟩
      refine (show SXL _ _ [_] _ _ from ?_)
      refine SXL.append 0 ap_35 rfl rfl o37 rfl (.inr ⟨_, _, rfl, Mem.own (i := 1) rfl (takeAt_all _)⟩) rfl rfl ⟨by simp only [maxLen]; omega, by omega⟩ ?_; intro r_40 o_40
      refine SXL.nil (stepQ.mkL _ (by kernel_rfl) rfl rfl ?_)
      refine SXA.all [12] (by kernel_rfl) rfl ⟨⟨?_, rfl⟩, trivial⟩
      refine (show SXL _ _ [_] _ _ from ?_)
      refine SXL.callV (FrR (struckP s 1 (i + k + 1) (l ++ [(s.reads.getD (i + k) default).num]))) fn_86 rfl rfl (fun w hI => strike1 s bo ro bc rc b3 b4 hv (i + k + 1) (l ++ [(s.reads.getD (i + k) default).num]) r_40.addr (l.length + 1) r_40.cap (by simp) (by omega) (cutAddr lao (k + 1) lc 1) (ln - (k + 1)) (lc - (k + 1)) (by omega) (by omega) w (hg.inv hI) (hs.inv hI) (hst0.inv hI) (slOnes hI (l := (l ++ [(s.reads.getD (i + k) default).num])) (by rw [ints_snoc]; exact o_40) (i := 0) (by rw [ints_snoc]; rfl)) (by have := (RowsAt.cut1 hll (i := k + 1) (c := lc) (by simp; omega)).inv hI; rwa [List.drop_drop] at this)) ?_; rintro _ _ ⟨q, oq, rfl, rfl⟩
      refine SXL.nil (stepQ.mk _ rfl rfl ?_)
      refine SXA.takeM 13 5 rfl (by kernel_rfl) rfl ?_
      refine SXL.move rfl ?_
      refine SXL.extract rfl rfl ?_
      refine SXL.extract rfl rfl ?_
      refine SXL.assign rfl ?_
      refine SXL.assign rfl ?_
      refine SXL.nil ⟨rfl, rfl, rfl, ?_⟩
      refine SXA.done (by kernel_rfl) ?_
      refine SXL.nil ?_
      refine thenQ.normal ?_
      refine SX.seq ?_
      refine SX.region ?_
      refine SXL.move rfl ?_
      refine SXL.nil ?_
      refine thenQ.normal ?_
      refine SX.condP rfl (fun c50 => ?_) (fun c50 => ?_)
      · refine SX.seq ?_
        refine SX.region ?_
        refine SXL.move rfl ?_
        refine SXL.assign rfl ?_
        refine SXL.assign rfl ?_
        refine SXL.nil ?_
        refine thenQ.normal ?_
        refine SX.ret ?_
        refine blockQ.ret ?_
        refine thenQ.ret ?_
        refine thenQ.ret ?_
        refine blockQ.ret ?_
        refine thenQ.ret ?_
        refine retQ.sel [2] rfl rfl ?_
        refine retQ.two (ResAt.tmp rfl) (ResAt.tmp rfl) ?_
        exact FrR.some (p := True) (hst.trans (by rw [struck_step hk, isSome_get c50]; rfl)) oq trivial
      · refine SX.skip ?_
        refine blockQ.normal ?_
        refine thenQ.normal ?_
        refine SX.region ?_
        refine SXL.add rfl rfl (by omega) ?_
        refine SXL.move rfl ?_
        refine SXL.nil ?_
        refine thenQ.normal ?_
        refine ⟨k + 1, Meets.mk _ ⟨rfl, trivial⟩ ⟨rfl, rfl, rfl, rfl, rfl, rfl, rfl, rfl, trivial⟩ rfl, ⟨by rw [hst, struck_step hk, isSome_false c50]; rfl, by omega⟩, (by omega)⟩
    · refine (show SXL _ _ [_] _ _ from ?_)
      refine SXL.buildSlice et_35 zp_3 rfl rfl rfl rfl ?_; intro b0
      refine SXL.nil (stepQ.mk _ rfl rfl ?_)
      refine SXA.all [2] (by kernel_rfl) rfl ⟨⟨?_, rfl⟩, trivial⟩
      refine (show SXL _ _ [_] _ _ from ?_)
      refine SXL.callF (IsI l) fn_87 rfl (fun w hI => cloneInts l ao c (by omega) w (hl.inv hI)) ?_; rintro _ _ ⟨r37, o37, rfl, rfl⟩
      refine SXL.nil (stepQ.mk _ rfl rfl ?_)
      refine SXA.all [5] (by kernel_rfl) rfl ⟨⟨?_, rfl⟩, trivial⟩
      refine (show SXL _ _ [_] _ _ from ?_)
      refine SXL.append 1 ap_35 rfl rfl o37 rfl (.inr ⟨_, _, rfl, Mem.own (i := 0) rfl (takeAt_all _)⟩) rfl rfl ⟨by simp only [maxLen]; omega, by omega⟩ ?_; intro r_40 o_40
      refine SXL.nil (stepQ.mkL _ (by kernel_rfl) rfl rfl ?_)
      refine SXA.all [12] (by kernel_rfl) rfl ⟨⟨?_, rfl⟩, trivial⟩
      refine (show SXL _ _ [_] _ _ from ?_)
      refine SXL.callV (FrR (struckP s 1 (i + k + 1) (l ++ [(s.reads.getD (i + k) default).num]))) fn_86 rfl rfl (fun w hI => strike1 s bo ro bc rc b3 b4 hv (i + k + 1) (l ++ [(s.reads.getD (i + k) default).num]) r_40.addr (l.length + 1) r_40.cap (by simp) (by omega) (cutAddr lao (k + 1) lc 1) (ln - (k + 1)) (lc - (k + 1)) (by omega) (by omega) w (hg.inv hI) (hs.inv hI) (hst0.inv hI) (slOnes hI (l := (l ++ [(s.reads.getD (i + k) default).num])) (by rw [ints_snoc]; exact o_40) (i := 1) (by rw [ints_snoc]; rfl)) (by have := (RowsAt.cut1 hll (i := k + 1) (c := lc) (by simp; omega)).inv hI; rwa [List.drop_drop] at this)) ?_; rintro _ _ ⟨q, oq, rfl, rfl⟩
      refine SXL.nil (stepQ.mk _ rfl rfl ?_)
      refine SXA.takeM 13 5 rfl (by kernel_rfl) rfl ?_
      refine SXL.move rfl ?_
      refine SXL.extract rfl rfl ?_
      refine SXL.extract rfl rfl ?_
      refine SXL.assign rfl ?_
      refine SXL.assign rfl ?_
      refine SXL.nil ⟨rfl, rfl, rfl, ?_⟩
      refine SXA.done (by kernel_rfl) ?_
      refine SXL.nil ?_
      refine thenQ.normal ?_
      refine SX.seq ?_
      refine SX.region ?_
      refine SXL.move rfl ?_
      refine SXL.nil ?_
      refine thenQ.normal ?_
      refine SX.condP rfl (fun c50 => ?_) (fun c50 => ?_)
      · refine SX.seq ?_
        refine SX.region ?_
        refine SXL.move rfl ?_
        refine SXL.assign rfl ?_
        refine SXL.assign rfl ?_
        refine SXL.nil ?_
        refine thenQ.normal ?_
        refine SX.ret ?_
        refine blockQ.ret ?_
        refine thenQ.ret ?_
        refine thenQ.ret ?_
        refine blockQ.ret ?_
        refine thenQ.ret ?_
        refine retQ.sel [2] rfl rfl ?_
        refine retQ.two (ResAt.tmp rfl) (ResAt.tmp rfl) ?_
        exact FrR.some (p := True) (hst.trans (by rw [struck_step hk, isSome_get c50]; rfl)) oq trivial
      · refine SX.skip ?_
        refine blockQ.normal ?_
        refine thenQ.normal ?_
        refine SX.region ?_
        refine SXL.add rfl rfl (by omega) ?_
        refine SXL.move rfl ?_
        refine SXL.nil ?_
        refine thenQ.normal ?_
        refine ⟨k + 1, Meets.mk _ ⟨rfl, trivial⟩ ⟨rfl, rfl, rfl, rfl, rfl, rfl, rfl, rfl, trivial⟩ rfl, ⟨by rw [hst, struck_step hk, isSome_false c50]; rfl, by omega⟩, (by omega)⟩
  · refine SX.exit ?_
    refine thenQ.exit ?_
    refine thenQ.exit ?_
    refine blockQ.exit ?_
    refine thenQ.normal ?_
    refine SX.seq ?_
    refine SX.region ?_
    refine SXL.assign rfl ?_
    refine SXL.assign rfl ?_
    refine SXL.nil ?_
    refine thenQ.normal ?_
    refine SX.ret ?_
    refine retQ.dead [Sl.nil.ent 3 []] rfl ?_
    refine retQ.two (ResAt.tmp rfl) (ResAt.tmp rfl) ?_
    exact FrR.none (hst.trans (struck_done (by omega)))
theorem strikeTop (s : Sp) (bo ro : Option Addr) (bc rc b3 b4 : Nat) (hv : SpP s) (m : Nat) (hm : m < 3) (lao : Option Addr) (lc : Nat) (hlc : (numsL s).length ≤ lc) (w : World) (hg : Gl w) (hs : SpAt w s bo ro) (hst0 : StAt w s bo ro bc rc b3 b4) (hll : RowsAt w lao 1 (ones (numsL s))) :
    CallsR Tryd.prog 86 [.slice none 0 0, .slice lao (numsL s).length lc, .int .i64 (m : Int), .pointer (some ⟨b3, 0, none⟩), .pointer (some ⟨b4, 0, none⟩)] w (FrR (struckP s m 0 [])) := by
  have e := length_numsL s
  match m, hm with
  | 0, _ =>
    refine (strike0 s bo ro bc rc b3 b4 hv 0 [] none 0 0 rfl (by omega) lao _ lc (by omega) hlc w hg hs hst0 (.nil _ _ _) hll).own0 fun v e => ?_
    subst e
    simp only [struckP]
    have hv2 := wo_valid hv []
    by_cases h : TrueP (wo s [])
    · rw [if_pos h]; exact ⟨Sl.nil, Sl.Ok.none _, by simp [Sl.val, Sl.nil, Sl.addr, h, hv2], rfl⟩
    · rw [if_neg h]; exact ⟨Sl.nil, Sl.Ok.none _, by simp [Sl.val, Sl.nil, Sl.addr, h], rfl⟩
  | 1, _ => exact strike1 s bo ro bc rc b3 b4 hv 0 [] none 0 0 rfl (by omega) lao _ lc (by omega) hlc w hg hs hst0 (.nil _ _ _) hll
  | 2, _ => exact strike2 s bo ro bc rc b3 b4 hv 0 [] none 0 0 rfl (by omega) lao _ lc (by omega) hlc w hg hs hst0 (.nil _ _ _) hll
set_option maxHeartbeats 2000000 in
theorem swrong_any (s : Sp) (bo ro : Option Addr) (bc rc : Nat) (hb : s.book.length ≤ 1000000) (hr : s.reads.length ≤ 1000000) (w : World) (hg : Gl w) (hs : SpAt w s bo ro) :
    CallsR Tryd.prog 34 [.agg ⟨[.int .i64 s.weeks, .int .i64 s.most, .int .i64 s.fall, .int .i64 s.a0, .int .i64 s.a1, .int .i64 s.w0, .int .i64 s.w1, (.slice bo s.book.length bc), (.slice ro s.reads.length rc)]⟩] w (IsR2 (wrongL s) (wrongE s)) := by
  refine CallsR.of_SX (n := 42) (rs := [.tmp 2, .tmp 3]) Tryd.func34 rfl rfl rfl rfl ?_
  show SX _ _ _ ⟨[(0, .agg ⟨[.int .i64 s.weeks, .int .i64 s.most, .int .i64 s.fall, .int .i64 s.a0, .int .i64 s.a1, .int .i64 s.w0, .int .i64 s.w1, (.slice bo s.book.length bc), (.slice ro s.reads.length rc)]⟩)], [], []⟩
  refine SX.seq ?_
  refine SX.region ?_
  refine SXL.box rfl rfl ?_; intro b0
  refine SXL.assign rfl ?_
  refine SXL.assign rfl ?_
  refine SXL.nil ?_
  refine thenQ.normal ?_
  refine SX.seq ?_
  refine SX.seq ?_
  refine SX.region ?_
  refine SXL.loadNo 0 sh_27 rfl rfl rfl ?_
  refine SXL.call1 (.int .i64 (if SpP s then 0 else 10)) fn_26 rfl (fun w hI => scheck_any s bo ro bc rc hb hr _ (hg.inv hI) (hs.inv hI)) ?_
  refine SXL.assign rfl ?_
  refine SXL.nil ?_
  refine thenQ.normal ?_
  refine SX.seq ?_
  refine SX.region ?_
  refine SXL.move rfl ?_
  refine SXL.neqI rfl rfl ?_
  refine SXL.nil ?_
  refine thenQ.normal ?_
  refine SX.condP rfl (fun c15 => ?_) (fun c15 => ?_)
  · refine SX.seq ?_
    have hv : ¬SpP s := fun h => c15 (by rw [if_pos h])
    refine SX.region ?_
    refine SXL.move rfl ?_
    refine SXL.assign rfl ?_
    refine SXL.assign rfl ?_
    refine SXL.nil ?_
    refine thenQ.normal ?_
    refine SX.ret ?_
    refine thenQ.ret ?_
    refine retQ.dead [Sl.nil.ent 3 []] rfl ?_
    refine retQ.two (ResAt.tmp rfl) (ResAt.tmp rfl) ?_
    rw [if_neg hv, wrongL, if_neg hv, wrongE, if_pos hv]; exact ⟨Sl.nil, Sl.Ok.none _, rfl, rfl⟩
  · refine SX.skip ?_
    refine thenQ.normal ?_
    refine SX.seq ?_
    have hv : SpP s := Decidable.byContradiction fun h => c15 (by rw [if_neg h]; omega)
    have hnl := length_numsL s
    have hH := hv.1
    unfold HeadP at hH
    refine SX.region ?_
    refine SXL.loadNo 0 sh_27 rfl rfl rfl ?_
    refine SXL.callF (IsI (numsL s)) fn_83 rfl (fun w hI => numbers_any s bo ro bc rc hb hr w (hs.inv hI)) ?_; rintro _ _ ⟨q0, o0, rfl, rfl⟩
    refine SXL.assign rfl ?_
    refine SXL.nil ?_
    refine thenQ.normal ?_
    refine SX.seq ?_
    refine SX.seq ?_
    refine SX.region ?_
    refine SXL.loadNo 0 sh_27 rfl rfl rfl ?_
    refine SXL.move rfl ?_
    refine SXL.callF (SpR (wo s (numsL s))) fn_84 rfl (fun w hI => swithout_any s bo ro bc rc (numsL s) q0.addr q0.cap (by omega) hb hr (nums_nodup hv.2.2) w (hs.inv hI) (slOnes hI o0 (i := 1) rfl)) ?_; rintro _ _ ⟨r1, r2, o1, o2, rfl, rfl⟩
    refine SXL.call1 (.tuple ⟨[.bool (decide (SpP (wo s (numsL s)) ∧ TrueP (wo s (numsL s)))), .int .i64 (if SpP (wo s (numsL s)) then 0 else 10)]⟩) fn_18 rfl (fun w hI => scan_any (wo s (numsL s)) r1.addr r2.addr r1.cap r2.cap hb (by have := keepR_len s.reads (numsL s); show (keepR _ _).length ≤ _; omega) _ (hg.inv hI) (spAtOwn hI o1 o2 (i := 2) (j := 3) rfl rfl)) ?_
    refine SXL.move rfl ?_
    refine SXL.extract rfl rfl ?_
    refine SXL.extract rfl rfl ?_
    refine SXL.assign rfl ?_
    refine SXL.assign rfl ?_
    refine SXL.nil ?_
    refine thenQ.normal ?_
    refine SX.seq ?_
    refine SX.region ?_
    refine SXL.move rfl ?_
    refine SXL.not rfl ?_
    refine SXL.nil ?_
    refine thenQ.normal ?_
    refine SX.condP rfl (fun c27 => ?_) (fun c27 => ?_)
    · refine SX.seq ?_
      have hno : ¬TrueP { s with reads := [] } := fun h => c27 ⟨wo_valid hv _, wo_all ▸ h⟩
      refine SX.region ?_
      refine SXL.assign rfl ?_
      refine SXL.assign rfl ?_
      refine SXL.nil ?_
      refine thenQ.normal ?_
      refine SX.ret ?_
      refine thenQ.ret ?_
      refine retQ.dead [Sl.nil.ent 3 []] rfl ?_
      refine retQ.two (ResAt.tmp rfl) (ResAt.tmp rfl) ?_
      rw [wrongL, if_pos hv, wrongE, if_neg (not_not_intro hv), wrong_none hv hno, if_neg (by simp), if_pos hno]; exact ⟨Sl.nil, Sl.Ok.none _, rfl, rfl⟩
    · refine SX.skip ?_
      refine thenQ.normal ?_
      refine SX.seq ?_
      refine SX.region ?_
      refine SXL.alloc zp_135 ?_; intro b4
      refine SXL.nil ?_
      refine thenQ.normal ?_
      refine SX.seq ?_
      refine SX.region ?_
      refine SXL.makeFunc rfl rfl ?_
      refine SXL.store 4 sz_135 rfl rfl rfl rfl rfl rfl ?_
      refine SXL.nil ?_
      refine thenQ.normal ?_
      refine SX.seq ?_
      refine SX.seq ?_
      refine SX.region ?_
      refine SXL.move rfl ?_
      refine SXL.nil ?_
      refine thenQ.normal ?_
      refine SX.block ?_
      refine SX.loopG (α := Nat) [2, 3, 5, 8] rfl (fun m => [(29, .int .i64 ((m : Int)))]) (fun m => []) (fun m => m ≤ 3 ∧ ∀ k, k < m → struckP s k 0 [] = none) (fun m => 3 - m) 0 ⟨by omega, fun k h => absurd h (Nat.not_lt_zero _)⟩ ⟨rfl, trivial⟩ rfl ?_
      rintro m ⟨hm3, hall⟩
      refine SX.seq ?_
      refine SX.region ?_
      refine SXL.lss rfl rfl ?_
      refine SXL.nil ?_
      refine thenQ.normal ?_
      refine SX.seq ?_
      refine SX.condP rfl (fun c3 => ?_) (fun c3 => ?_)
      · refine SX.skip ?_
        refine thenQ.normal ?_
        refine SX.seq ?_
        refine SX.block ?_
        refine SX.seq ?_
        refine SX.region ?_
        refine SXL.move rfl ?_
        refine SXL.assign rfl ?_
        refine SXL.nil ?_
        refine thenQ.normal ?_
        refine SX.seq ?_
        refine SX.region ?_
        refine SXL.load1o 4 sh_135 rfl rfl rfl ?_
        refine SXL.move rfl ?_
        refine SXL.move rfl ?_
        refine SXL.callV (FrR (struckP s m 0 [])) fn_86 rfl rfl (fun w hI => strikeTop s bo ro bc rc b0 b4 hv m (by omega) q0.addr q0.cap o0.cap w (hg.inv hI) (hs.inv hI) ⟨fun j v hj => by rw [Nat.zero_add]; exact ownCell hI (i := 0) rfl hj, ownCell hI (i := 4) (j := 0) rfl rfl⟩ (slOnes hI o0 (i := 1) rfl)) ?_; rintro _ _ ⟨q, oq, rfl, rfl⟩
        refine SXL.move rfl ?_
        refine SXL.extract rfl rfl ?_
        refine SXL.extract rfl rfl ?_
        refine SXL.assign rfl ?_
        refine SXL.assign rfl ?_
        refine SXL.nil ?_
        refine thenQ.normal ?_
        refine SX.seq ?_
        refine SX.region ?_
        refine SXL.move rfl ?_
        refine SXL.nil ?_
        refine thenQ.normal ?_
        refine SX.condP rfl (fun c39 => ?_) (fun c39 => ?_)
        · refine SX.seq ?_
          refine SX.region ?_
          refine SXL.move rfl ?_
          refine SXL.assign rfl ?_
          refine SXL.assign rfl ?_
          refine SXL.nil ?_
          refine thenQ.normal ?_
          refine SX.ret ?_
          refine blockQ.ret ?_
          refine thenQ.ret ?_
          refine thenQ.ret ?_
          refine blockQ.ret ?_
          refine thenQ.ret ?_
          refine retQ.sel [5] rfl rfl ?_
          refine retQ.two (ResAt.tmp rfl) (ResAt.tmp rfl) ?_
          have hw := wrongF_at (by omega) hall (isSome_get c39)
          rw [wrongL, if_pos hv, hw, wrongE, if_neg (not_not_intro hv), hw]; exact ⟨q, oq, rfl, rfl⟩
        · refine SX.skip ?_
          refine blockQ.normal ?_
          refine thenQ.normal ?_
          refine SX.region ?_
          refine SXL.add rfl rfl (by omega) ?_
          refine SXL.move rfl ?_
          refine SXL.nil ?_
          refine thenQ.normal ?_
          refine ⟨m + 1, Meets.mk _ ⟨rfl, trivial⟩ ⟨rfl, rfl, rfl, rfl, trivial⟩ rfl, ⟨by omega, fun k hk => by
            by_cases e : k = m
            · subst e; exact isSome_false c39
            · exact hall k (by omega)⟩, (by omega)⟩
      · refine SX.exit ?_
        refine thenQ.exit ?_
        refine thenQ.exit ?_
        refine blockQ.exit ?_
        refine thenQ.normal ?_
        refine SX.seq ?_
        have hnone : wrongF s = none := wrongF_no fun k hk => hall k (by omega)
        have hyes : TrueP { s with reads := [] } := wo_all ▸ (Decidable.not_not.1 c27).2
        refine SX.region ?_
        refine SXL.assign rfl ?_
        refine SXL.assign rfl ?_
        refine SXL.nil ?_
        refine thenQ.normal ?_
        refine SX.ret ?_
        refine retQ.dead [Sl.nil.ent 3 []] rfl ?_
        refine retQ.two (ResAt.tmp rfl) (ResAt.tmp rfl) ?_
        rw [wrongL, if_pos hv, wrongE, if_neg (not_not_intro hv), hnone, if_neg (by simp), if_neg (not_not_intro hyes)]; exact ⟨Sl.nil, Sl.Ok.none _, rfl, rfl⟩
end Go.Proofs.YtknflipongbngaaDoor

/- Springs that are handed back with an error: struck readings, a line more. -/
namespace Go.S
open Go Go.X
def zeroSp : Sp := ⟨0, 0, 0, 0, 0, 0, 0, [], []⟩
/-- A spring and an error. -/
structure SpE (s : Sp) (e : Int) (v : Value) (own : X.Own) : Prop where
  ex : ∃ r1 r2 : Sl, r1.Ok s.book.length 5 (bookC s) ∧ r2.Ok s.reads.length 5 (readsC s) ∧ v = .tuple ⟨[spV s r1 r2, .int .i64 e]⟩ ∧ own = [r1.ent 61 (bookC s), r2.ent 54 (readsC s)]
theorem SpE.zero (e : Int) : SpE zeroSp e (.tuple ⟨[.agg ⟨[.int .i64 0, .int .i64 0, .int .i64 0, .int .i64 0, .int .i64 0, .int .i64 0, .int .i64 0, .slice none 0 0, .slice none 0 0]⟩, .int .i64 e]⟩) [Sl.nil.ent 61 [], Sl.nil.ent 54 []] :=
  ⟨Sl.nil, Sl.nil, Sl.Ok.none _, Sl.Ok.none _, rfl, rfl⟩
/-- Numbers of readings, in order. -/
def StrikeOk (s : Sp) (ns : List Int) : Prop := ∀ i, i < ns.length → ns.getD i 0 ∈ numsL s ∧ (0 < i → ns.getD (i - 1) 0 < ns.getD i 0)
instance (s : Sp) (ns : List Int) : Decidable (StrikeOk s ns) := by unfold StrikeOk; infer_instance
def strikeE (s : Sp) (ns : List Int) : Int := if ¬SpP s then 10 else if ¬StrikeOk s ns then 12 else 0
def strikeS (s : Sp) (ns : List Int) : Sp := if strikeE s ns = 0 then wo s ns else zeroSp
theorem strike_bad {s : Sp} {ns : List Int} {e : Int} (h : strikeE s ns = e) (he : e ≠ 0) : strikeS s ns = zeroSp := if_neg (by rw [h]; exact he)
theorem strike_ok {s : Sp} {ns : List Int} (h : strikeE s ns = 0) : strikeS s ns = wo s ns := if_pos h
theorem numsL_at {s : Sp} {k : Nat} (h : k < s.reads.length) : (numsL s).getD k 0 = (s.reads.getD k default).num := by simp [numsL, h]
theorem num_pos {s : Sp} (hv : SpP s) {x : Int} (h : x ∈ numsL s) : 1 ≤ x := by
  obtain ⟨r, hr, rfl⟩ := List.mem_map.1 h
  have := (readsP_iff.1 hv.2.2).1 r hr
  omega
/-- The number ahead; nought ahead of all. -/
def lastOf (ns : List Int) (j : Nat) : Int := if j = 0 then 0 else ns.getD (j - 1) 0
def StrikeTo (s : Sp) (ns : List Int) (j : Nat) : Prop := ∀ i, i < j → ns.getD i 0 ∈ numsL s ∧ (0 < i → ns.getD (i - 1) 0 < ns.getD i 0)
theorem StrikeTo.next {s : Sp} {ns : List Int} {j : Nat} (h : StrikeTo s ns j) (h1 : ns.getD j 0 ∈ numsL s) (h2 : 0 < j → ns.getD (j - 1) 0 < ns.getD j 0) : StrikeTo s ns (j + 1) := fun i hi => by
  by_cases e : i = j
  · subst e; exact ⟨h1, h2⟩
  · exact h i (by omega)
theorem StrikeTo.all {s : Sp} {ns : List Int} (h : StrikeTo s ns ns.length) : StrikeOk s ns := fun i hi => h i hi
theorem lastOf_next {s : Sp} {ns : List Int} {j : Nat} (h : ¬(ns.getD j 0 ≤ lastOf ns j ∨ ¬ns.getD j 0 ∈ numsL s)) : lastOf ns j < ns.getD j 0 ∧ ns.getD j 0 ∈ numsL s :=
  ⟨by rcases Int.lt_or_le (lastOf ns j) (ns.getD j 0) with h1 | h1
      · exact h1
      · exact absurd (.inl h1) h, Decidable.byContradiction fun h1 => h (.inr h1)⟩
theorem lastOf_lt {ns : List Int} {j : Nat} {x : Int} (h : lastOf ns j < x) : 0 < j → ns.getD (j - 1) 0 < x := fun h0 => by
  unfold lastOf at h
  rw [if_neg (by omega)] at h
  exact h
theorem lastOf_bad {s : Sp} (hv : SpP s) {ns : List Int} {j : Nat} (hj : j < ns.length) (h : ns.getD j 0 ≤ lastOf ns j ∨ ns.getD j 0 ∉ numsL s) : ¬StrikeOk s ns := fun hok => by
  have h1 := hok j hj
  rcases h with h | h
  · by_cases h0 : j = 0
    · have := num_pos hv h1.1
      unfold lastOf at h
      rw [if_pos h0] at h
      omega
    · have := h1.2 (by omega)
      unfold lastOf at h
      rw [if_neg h0] at h
      omega
  · exact h h1.1
/-! ### a line more -/
def withLine (s : Sp) (y : Ln) : Sp := { s with book := s.book ++ [y] }
def writeE (s : Sp) (y : Ln) : Int := if ¬SpP s then 10 else if s.book.length = 8 then 9 else if ¬SpP (withLine s y) then 13 else 0
def writeS (s : Sp) (y : Ln) : Sp := if writeE s y = 0 then withLine s y else zeroSp
theorem bookC_line (s : Sp) (y : Ln) : bookC (withLine s y) = bookC s ++ y.cells := by simp [bookC, withLine]
theorem write_bad {s : Sp} {y : Ln} {e : Int} (h : writeE s y = e) (he : e ≠ 0) : writeS s y = zeroSp := if_neg (by rw [h]; exact he)
theorem write_ok {s : Sp} {y : Ln} (h : writeE s y = 0) : writeS s y = withLine s y := if_pos h
theorem wo_nil (s : Sp) : wo s [] = s := by
  unfold wo keepR
  have : (s.reads.filter fun x => decide (x.num ∉ ([] : List Int))) = s.reads := List.filter_eq_self.2 fun x _ => by simp
  rw [this]
end Go.S

/- The walks of functions. -/
namespace Go.Proofs.YtknflipongbngaaDoor
open Go.X Go.S Go.RowKit
theorem containsInts (l : List Int) (x : Int) (ao : Option Addr) (c : Nat) (hl2 : l.length ≤ 1000000) (w : World) (h : RowsAt w ao 1 (ones l)) :
    CallsR Tryd.prog 93 [.slice ao l.length c, .int .i64 x] w (fun v _ => v = .bool (decide (x ∈ l))) := by
  refine CallsR.of_SX (n := 9) (rs := [.tmp 4]) Tryd.func93 rfl rfl rfl rfl ?_
  show SX _ _ _ ⟨[(0, .slice ao l.length c), (1, .int .i64 x)], [], []⟩
  refine SX.seq ?_
  refine SX.region ?_
  refine SXL.assign rfl ?_
  refine SXL.nil ?_
  refine thenQ.normal ?_
  refine SX.seq ?_
  refine SX.region ?_
  refine SXL.move rfl ?_
  refine SXL.move rfl ?_
  refine SXL.call1 (.int .i64 (idxF (fun k => x = l.getD k 0) l.length)) fn_107 rfl (fun w hI => indexInts l x ao c hl2 _ (h.inv hI)) ?_
  refine SXL.geq rfl rfl ?_
  refine SXL.assign rfl ?_
  refine SXL.nil ?_
  refine thenQ.normal ?_
  refine SX.ret ?_
  refine retQ.one (ResAt.tmp rfl) ?_
  exact congrArg Value.bool (decide_eq_decide.2 (by
    rw [idxF_nonneg]
    constructor
    · rintro ⟨k, hk, e⟩
      rw [e, List.getD_eq_getElem?_getD, List.getElem?_eq_getElem hk]; exact List.getElem_mem hk
    · intro h
      obtain ⟨k, hk, e⟩ := List.getElem_of_mem h
      exact ⟨k, hk, by simp [hk, e]⟩))
set_option maxHeartbeats 2000000 in
theorem rstrike_any (s : Sp) (bo ro : Option Addr) (bc rc : Nat) (ns : List Int) (ao : Option Addr) (nc : Nat) (hn : ns.length ≤ 1000000) (w : World) (hs : SpAt w s bo ro) (ha0 : RowsAt w ao 1 (ones ns)) :
    CallsR Tryd.prog 41 [.agg ⟨[.int .i64 s.weeks, .int .i64 s.most, .int .i64 s.fall, .int .i64 s.a0, .int .i64 s.a1, .int .i64 s.w0, .int .i64 s.w1, (.slice bo s.book.length bc), (.slice ro s.reads.length rc)]⟩, .slice ao ns.length nc] w (SpE (strikeS s ns) (strikeE s ns)) := by
  refine CallsR.of_SX (n := 57) (rs := [.cell 4 27, .tmp 5]) Tryd.func41 rfl rfl rfl rfl ?_
  show SX _ _ _ ⟨[(0, .agg ⟨[.int .i64 s.weeks, .int .i64 s.most, .int .i64 s.fall, .int .i64 s.a0, .int .i64 s.a1, .int .i64 s.w0, .int .i64 s.w1, (.slice bo s.book.length bc), (.slice ro s.reads.length rc)]⟩), (1, .slice ao ns.length nc)], [], []⟩
  refine SX.seq ?_
  refine SX.region ?_
  refine SXL.box rfl rfl ?_; intro b0
  refine SXL.alloc zp_27 ?_; intro b1
  refine SXL.assign rfl ?_
  refine SXL.nil ?_
  refine thenQ.normal ?_
  refine SX.seq ?_
  refine SX.seq ?_
  refine SX.region ?_
  refine SXL.loadNo 0 sh_27 rfl rfl rfl ?_
  refine SXL.call1 (.bool (decide (SpP s))) fn_74 rfl (fun w hI => spring_any s bo ro bc rc _ (hs.inv hI)) ?_
  refine SXL.not rfl ?_
  refine SXL.nil ?_
  refine thenQ.normal ?_
  refine SX.condP rfl (fun c13 => ?_) (fun c13 => ?_)
  · refine SX.seq ?_
    refine SX.region ?_
    refine SXL.buildS pl_27 zp_27 rfl rfl ?_
    refine SXL.store 1 sz_27 rfl rfl rfl rfl rfl rfl ?_
    refine SXL.assign rfl ?_
    refine SXL.nil ?_
    refine thenQ.normal ?_
    refine SX.ret ?_
    refine thenQ.ret ?_
    refine retQ.dead [Sl.nil.ent 61 [], Sl.nil.ent 54 []] rfl ?_
    refine retQ.two (ResAt.cellNo 1 sh_27 rfl rfl rfl) (ResAt.tmp rfl) ?_
    have he : strikeE s ns = 10 := by rw [strikeE, if_pos c13]
    rw [strike_bad he (by omega), he]; exact SpE.zero _
  · refine SX.skip ?_
    refine thenQ.normal ?_
    refine SX.seq ?_
    refine SX.seq ?_
    have hv : SpP s := Decidable.not_not.1 c13
    have hH := hv.1
    unfold HeadP at hH
    have hnl := length_numsL s
    refine SX.region ?_
    refine SXL.move rfl ?_
    refine SXL.len is_35 rfl ?_
    refine SXL.move rfl ?_
    refine SXL.nil ?_
    refine thenQ.normal ?_
    refine SX.block ?_
    refine SX.loopG (α := Nat) [1, 2, 4, 5, 15, 16] rfl (fun j => [(17, .int .i64 ((j : Int)))]) (fun j => []) (fun j => j ≤ ns.length ∧ StrikeTo s ns j) (fun j => ns.length - j) 0 ⟨Nat.zero_le _, fun i h => absurd h (Nat.not_lt_zero _)⟩ ⟨rfl, trivial⟩ rfl ?_
    rintro j ⟨hjl, hall⟩
    refine SX.seq ?_
    refine SX.region ?_
    refine SXL.lss rfl rfl ?_
    refine SXL.nil ?_
    refine thenQ.normal ?_
    refine SX.seq ?_
    refine SX.condP rfl (fun c2 => ?_) (fun c2 => ?_)
    · refine SX.skip ?_
      refine thenQ.normal ?_
      refine SX.seq ?_
      refine SX.block ?_
      refine SX.seq ?_
      have hj : j < ns.length := by omega
      obtain ⟨b, o, ha, hm⟩ := oneI ha0 hj
      refine SX.region ?_
      refine SXL.move rfl ?_
      refine SXL.indexR el_35 rfl rfl ha (by omega) ?_
      refine SXL.load1 sh_3 rfl (hm _) ?_
      refine SXL.assign rfl ?_
      refine SXL.assign rfl ?_
      refine SXL.nil ?_
      refine thenQ.normal ?_
      refine SX.seq ?_
      refine SX.region ?_
      refine SXL.assign rfl ?_
      refine SXL.nil ?_
      refine thenQ.normal ?_
      refine SX.seq ?_
      refine SX.seq ?_
      refine SX.region ?_
      refine SXL.fieldAddr fp_27_6 rfl ?_
      refine SXL.load1o 0 sh_25 rfl rfl rfl ?_
      refine SXL.len is_25 rfl ?_
      refine SXL.move rfl ?_
      refine SXL.nil ?_
      refine thenQ.normal ?_
      refine SX.block ?_
      refine SX.loopG (α := Nat) [1, 2, 4, 5, 6, 7, 15, 16, 17, 23, 24] rfl (fun k => [(25, .int .i64 ((k : Int))), (8, .bool (decide ((ns.getD j 0) ∈ (numsL s).take k)))]) (fun k => []) (fun k => k ≤ s.reads.length) (fun k => s.reads.length - k) 0 (Nat.zero_le _) ⟨rfl, congrArg (fun z => some (Value.bool z)) (decide_eq_false (by simp)).symm, trivial⟩ rfl ?_
      rintro k hk0
      refine SX.seq ?_
      refine SX.region ?_
      refine SXL.lss rfl rfl ?_
      refine SXL.nil ?_
      refine thenQ.normal ?_
      refine SX.seq ?_
      refine SX.condP rfl (fun c3 => ?_) (fun c3 => ?_)
      · refine SX.skip ?_
        refine thenQ.normal ?_
        refine SX.seq ?_
        refine SX.block ?_
        refine SX.seq ?_
        have hk : k < s.reads.length := by omega
        obtain ⟨b2, o2, ha2, hm2⟩ := hs.readD hk
        refine SX.region ?_
        refine SXL.indexR el_25 rfl rfl ha2 (by omega) ?_
        refine SXL.loadN sh_54 rfl (hm2 _) rfl ?_
        refine SXL.alloc zp_54 ?_; intro b2
        refine SXL.store 2 sz_54 rfl rfl rfl rfl rfl rfl ?_
        refine SXL.nil ?_
        refine thenQ.normal ?_
        refine SX.region ?_
        refine SXL.move rfl ?_
        refine SXL.move rfl ?_
        apply SXL.orG 4
        case hl => exact rfl
        case hd => exact rfl
        case hg => exact rfl
        case ht =>
          intro g4
          refine SXL.pass rfl rfl rfl ?_
          refine SXL.pass rfl rfl rfl ?_
          refine SXL.pass rfl rfl rfl ?_
          refine SXL.pass rfl rfl rfl ?_
          exact SXL.nil (segQ.mk (.skip rfl (.skip rfl (.skip rfl (.skip rfl (.skip rfl (EnvSub.refl _)))))) rfl rfl rfl)
        case hf =>
          intro g4
          refine SXL.fieldAddr fp_54_0 rfl ?_
          refine SXL.load1o 2 sh_3 rfl rfl rfl ?_
          refine SXL.move rfl ?_
          refine SXL.eqlI rfl rfl ?_
          exact SXL.nil (segQ.mk (.skip rfl (.skip rfl (.skip rfl (.skip rfl (.skip rfl (EnvSub.refl _)))))) rfl rfl ⟨rfl, rfl⟩)
        refine SXL.assign rfl ?_
        refine SXL.nil ?_
        refine blockQ.normal ?_
        refine thenQ.normal ?_
        refine SX.region ?_
        refine SXL.add rfl rfl (by omega) ?_
        refine SXL.move rfl ?_
        refine SXL.nil ?_
        refine thenQ.normal ?_
        refine ⟨k + 1, Meets.mk _ ⟨rfl, congrArg (fun z => some (Value.bool z)) (decide_eq_decide.2 (by rw [mem_take_succ (by simp; omega), numsL_at hk])), trivial⟩ ⟨rfl, rfl, rfl, rfl, rfl, rfl, rfl, rfl, rfl, rfl, rfl, trivial⟩ rfl, (by omega), (by omega)⟩
      · refine SX.exit ?_
        refine thenQ.exit ?_
        refine thenQ.exit ?_
        refine blockQ.exit ?_
        refine thenQ.normal ?_
        refine SX.seq ?_
        have hk9 : (numsL s).length = k := by omega
        refine SX.region ?_
        refine SXL.move rfl ?_
        refine SXL.not rfl ?_
        refine SXL.move rfl ?_
        apply SXL.orG 11
        case hl => exact rfl
        case hd => exact rfl
        case hg => exact rfl
        case ht =>
          intro c51
          refine SXL.pass rfl rfl rfl ?_
          refine SXL.pass rfl rfl rfl ?_
          refine SXL.pass rfl rfl rfl ?_
          refine SXL.pass rfl rfl rfl ?_
          refine SXL.pass rfl rfl rfl ?_
          refine SXL.pass rfl rfl rfl ?_
          refine SXL.pass rfl rfl rfl ?_
          refine SXL.pass rfl rfl rfl ?_
          refine SXL.pass rfl rfl rfl ?_
          refine SXL.pass rfl rfl rfl ?_
          refine SXL.pass rfl rfl rfl ?_
          exact SXL.nil (segQ.mk (.skip rfl (.skip rfl (.skip rfl (.skip rfl (.skip rfl (.skip rfl (.skip rfl (.skip rfl (.skip rfl (.skip rfl (.skip rfl (.skip rfl (EnvSub.refl _))))))))))))) rfl rfl rfl)
        case hf =>
          intro c51
          refine SXL.move rfl ?_
          refine SXL.gtr rfl rfl ?_
          refine SXL.move rfl ?_
          apply SXL.andG 7
          case hl => exact rfl
          case hd => exact rfl
          case hg => exact rfl
          case ht =>
            intro g50
            have hj1 : j - 1 < ns.length := by omega
            obtain ⟨b3, o3, ha3, hm3⟩ := oneI ha0 hj1
            have hji : ((j : Int) - 1).toNat = j - 1 := by omega
            refine SXL.move rfl ?_
            refine SXL.move rfl ?_
            refine SXL.sub rfl rfl (by omega) ?_
            refine SXL.indexR el_35 rfl rfl ha3 (by omega) ?_
            refine SXL.load1 sh_3 rfl (by rw [hji]; exact hm3 _) ?_
            refine SXL.move rfl ?_
            refine SXL.geq rfl rfl ?_
            exact SXL.nil (segQ.mk (.skip rfl (.skip rfl (.skip rfl (.skip rfl (.skip rfl (.skip rfl (.skip rfl (.skip rfl (EnvSub.refl _))))))))) rfl rfl ⟨rfl, rfl⟩)
          case hf =>
            intro g50
            refine SXL.pass rfl rfl rfl ?_
            refine SXL.pass rfl rfl rfl ?_
            refine SXL.pass rfl rfl rfl ?_
            refine SXL.pass rfl rfl rfl ?_
            refine SXL.pass rfl rfl rfl ?_
            refine SXL.pass rfl rfl rfl ?_
            refine SXL.pass rfl rfl rfl ?_
            exact SXL.nil (segQ.mk (.skip rfl (.skip rfl (.skip rfl (.skip rfl (.skip rfl (.skip rfl (.skip rfl (.skip rfl (EnvSub.refl _))))))))) rfl rfl rfl)
          exact SXL.nil (segQ.mk (.skip rfl (.skip rfl (.skip rfl (.skip rfl (EnvSub.refl _))))) rfl rfl ⟨rfl, rfl⟩)
        refine SXL.nil ?_
        refine thenQ.normal ?_
        refine SX.condP rfl (fun c51 => ?_) (fun c51 => ?_)
        · refine SX.seq ?_
          refine SX.region ?_
          refine SXL.buildS pl_27 zp_27 rfl rfl ?_
          refine SXL.store 1 sz_27 rfl rfl rfl rfl rfl rfl ?_
          refine SXL.assign rfl ?_
          refine SXL.nil ?_
          refine thenQ.normal ?_
          refine SX.ret ?_
          refine blockQ.ret ?_
          refine thenQ.ret ?_
          refine thenQ.ret ?_
          refine blockQ.ret ?_
          refine thenQ.ret ?_
          refine retQ.dead [Sl.nil.ent 61 [], Sl.nil.ent 54 []] rfl ?_
          refine retQ.two (ResAt.cellNo 1 sh_27 rfl rfl rfl) (ResAt.tmp rfl) ?_
          have he : strikeE s ns = 12 := by rw [strikeE, if_neg (not_not_intro hv), if_pos (fun hok => by
                have h1 := hok j (by omega)
                rcases c51 with h | h
                · exact h (by rw [← hk9, List.take_length]; exact h1.1)
                · have h2 := h1.2 (by omega)
                  omega)]
          rw [strike_bad he (by omega), he]; exact SpE.zero _
        · refine SX.skip ?_
          refine blockQ.normal ?_
          refine thenQ.normal ?_
          refine SX.region ?_
          refine SXL.add rfl rfl (by omega) ?_
          refine SXL.move rfl ?_
          refine SXL.nil ?_
          refine thenQ.normal ?_
          refine ⟨j + 1, Meets.mk _ ⟨rfl, trivial⟩ ⟨rfl, rfl, rfl, rfl, rfl, rfl, trivial⟩ rfl, ⟨by omega, hall.next (Decidable.byContradiction fun h => c51 (.inl (by rw [← hk9]; rw [List.take_length]; exact h))) (fun h0 => by
            rcases Int.lt_or_le (ns.getD (j - 1) 0) (ns.getD j 0) with h | h
            · exact h
            · exact absurd (.inr ⟨by omega, by first | exact h | (rw [hji]; exact h) | (rw [← hji]; exact h)⟩) c51)⟩, (by omega)⟩
    · refine SX.exit ?_
      refine thenQ.exit ?_
      refine thenQ.exit ?_
      refine blockQ.exit ?_
      refine thenQ.normal ?_
      refine SX.seq ?_
      obtain rfl : j = ns.length := by omega
      refine SX.region ?_
      refine SXL.loadNo 0 sh_27 rfl rfl rfl ?_
      refine SXL.move rfl ?_
      refine SXL.callF (SpR (wo s ns)) fn_85 rfl (fun w hI => rwithout_any s bo ro bc rc ns ao nc hn (by omega) (by omega) w (hs.inv hI) (ha0.inv hI)) ?_; rintro _ _ ⟨r1, r2, o1, o2, rfl, rfl⟩
      refine SXL.store 1 sz_27 rfl rfl rfl rfl rfl rfl ?_
      refine SXL.assign rfl ?_
      refine SXL.nil ?_
      refine thenQ.normal ?_
      refine SX.ret ?_
      refine retQ.sel [2, 3] rfl rfl ?_
      refine retQ.two (ResAt.cellNo 1 sh_27 rfl rfl rfl) (ResAt.tmp rfl) ?_
      have he : strikeE s ns = 0 := by rw [strikeE, if_neg (not_not_intro hv), if_neg (not_not_intro hall.all)]
      rw [strike_ok he, he]; exact ⟨r1, r2, o1, o2, rfl, rfl⟩
set_option maxHeartbeats 2000000 in
theorem sstrike_any (s : Sp) (bo ro : Option Addr) (bc rc : Nat) (ns : List Int) (ao : Option Addr) (nc : Nat) (hn : ns.length ≤ 1000000) (hb : s.book.length ≤ 1000000) (hr : s.reads.length ≤ 1000000) (w : World) (hg : Gl w) (hs : SpAt w s bo ro) (ha0 : RowsAt w ao 1 (ones ns)) :
    CallsR Tryd.prog 40 [.agg ⟨[.int .i64 s.weeks, .int .i64 s.most, .int .i64 s.fall, .int .i64 s.a0, .int .i64 s.a1, .int .i64 s.w0, .int .i64 s.w1, (.slice bo s.book.length bc), (.slice ro s.reads.length rc)]⟩, .slice ao ns.length nc] w (SpE (strikeS s ns) (strikeE s ns)) := by
  refine CallsR.of_SX (n := 38) (rs := [.cell 4 27, .tmp 5]) Tryd.func40 rfl rfl rfl rfl ?_
  show SX _ _ _ ⟨[(0, .agg ⟨[.int .i64 s.weeks, .int .i64 s.most, .int .i64 s.fall, .int .i64 s.a0, .int .i64 s.a1, .int .i64 s.w0, .int .i64 s.w1, (.slice bo s.book.length bc), (.slice ro s.reads.length rc)]⟩), (1, .slice ao ns.length nc)], [], []⟩
  refine SX.seq ?_
  refine SX.region ?_
  refine SXL.box rfl rfl ?_; intro b0
  refine SXL.alloc zp_27 ?_; intro b1
  refine SXL.assign rfl ?_
  refine SXL.nil ?_
  refine thenQ.normal ?_
  refine SX.seq ?_
  refine SX.seq ?_
  refine SX.region ?_
  refine SXL.loadNo 0 sh_27 rfl rfl rfl ?_
  refine SXL.call1 (.int .i64 (if SpP s then 0 else 10)) fn_26 rfl (fun w hI => scheck_any s bo ro bc rc hb hr _ (hg.inv hI) (hs.inv hI)) ?_
  refine SXL.assign rfl ?_
  refine SXL.nil ?_
  refine thenQ.normal ?_
  refine SX.seq ?_
  refine SX.region ?_
  refine SXL.move rfl ?_
  refine SXL.neqI rfl rfl ?_
  refine SXL.nil ?_
  refine thenQ.normal ?_
  refine SX.condP rfl (fun c13 => ?_) (fun c13 => ?_)
  · refine SX.seq ?_
    have hv : ¬SpP s := fun h => c13 (by rw [if_pos h])
    refine SX.region ?_
    refine SXL.buildS pl_27 zp_27 rfl rfl ?_
    refine SXL.move rfl ?_
    refine SXL.store 1 sz_27 rfl rfl rfl rfl rfl rfl ?_
    refine SXL.assign rfl ?_
    refine SXL.nil ?_
    refine thenQ.normal ?_
    refine SX.ret ?_
    refine thenQ.ret ?_
    refine retQ.dead [Sl.nil.ent 61 [], Sl.nil.ent 54 []] rfl ?_
    refine retQ.two (ResAt.cellNo 1 sh_27 rfl rfl rfl) (ResAt.tmp rfl) ?_
    rw [if_neg hv]
    have he : strikeE s ns = 10 := by rw [strikeE, if_pos hv]
    rw [strike_bad he (by omega), he]; exact SpE.zero _
  · refine SX.skip ?_
    refine thenQ.normal ?_
    refine SX.seq ?_
    have hv : SpP s := Decidable.byContradiction fun h => c13 (by rw [if_neg h]; omega)
    have hH := hv.1
    unfold HeadP at hH
    have hnl := length_numsL s
    refine SX.region ?_
    refine SXL.assign rfl ?_
    refine SXL.nil ?_
    refine thenQ.normal ?_
    refine SX.seq ?_
    refine SX.seq ?_
    refine SX.region ?_
    refine SXL.move rfl ?_
    refine SXL.len is_35 rfl ?_
    refine SXL.move rfl ?_
    refine SXL.nil ?_
    refine thenQ.normal ?_
    refine SX.block ?_
    refine SX.loopG (α := Nat) [1, 2, 4, 5, 16, 17] rfl (fun j => [(18, .int .i64 ((j : Int))), (7, .int .i64 ((lastOf ns j)))]) (fun j => []) (fun j => j ≤ ns.length ∧ StrikeTo s ns j) (fun j => ns.length - j) 0 ⟨Nat.zero_le _, fun i h => absurd h (Nat.not_lt_zero _)⟩ ⟨rfl, rfl, trivial⟩ rfl ?_
    rintro j ⟨hjl, hall⟩
    refine SX.seq ?_
    refine SX.region ?_
    refine SXL.lss rfl rfl ?_
    refine SXL.nil ?_
    refine thenQ.normal ?_
    refine SX.seq ?_
    refine SX.condP rfl (fun c2 => ?_) (fun c2 => ?_)
    · refine SX.skip ?_
      refine thenQ.normal ?_
      refine SX.seq ?_
      refine SX.block ?_
      refine SX.seq ?_
      have hj : j < ns.length := by omega
      obtain ⟨b, o, ha, hm⟩ := oneI ha0 hj
      refine SX.region ?_
      refine SXL.indexR el_35 rfl rfl ha (by omega) ?_
      refine SXL.load1 sh_3 rfl (hm _) ?_
      refine SXL.assign rfl ?_
      refine SXL.nil ?_
      refine thenQ.normal ?_
      refine SX.seq ?_
      refine SX.seq ?_
      refine SX.region ?_
      refine SXL.move rfl ?_
      refine SXL.move rfl ?_
      refine SXL.leq rfl rfl ?_
      refine SXL.move rfl ?_
      apply SXL.orG 5
      case hl => exact rfl
      case hd => exact rfl
      case hg => exact rfl
      case ht =>
        intro c31
        refine SXL.pass rfl rfl rfl ?_
        refine SXL.pass rfl rfl rfl ?_
        refine SXL.pass rfl rfl rfl ?_
        refine SXL.pass rfl rfl rfl ?_
        refine SXL.pass rfl rfl rfl ?_
        exact SXL.nil (segQ.mk (.skip rfl (.skip rfl (.skip rfl (.skip rfl (.skip rfl (.skip rfl (EnvSub.refl _))))))) rfl rfl rfl)
      case hf =>
        intro c31
        refine SXL.loadNo 0 sh_27 rfl rfl rfl ?_
        refine SXL.callF (IsI (numsL s)) fn_83 rfl (fun w hI => numbers_any s bo ro bc rc hb hr w (hs.inv hI)) ?_; rintro _ _ ⟨q0, o0, rfl, rfl⟩
        refine SXL.move rfl ?_
        refine SXL.call1 (.bool (decide ((ns.getD j 0) ∈ numsL s))) fn_93 rfl (fun w hI => containsInts (numsL s) (ns.getD j 0) q0.addr q0.cap (by omega) _ (slOnes hI o0 (i := 2) rfl)) ?_
        refine SXL.not rfl ?_
        exact SXL.ownPre (SXL.nil (segQ.mk (.skip rfl (.skip rfl (.skip rfl (.skip rfl (.skip rfl (.skip rfl (EnvSub.refl _))))))) rfl rfl ⟨rfl, rfl⟩)) rfl
      refine SXL.nil ?_
      refine thenQ.normal ?_
      refine SX.condP rfl (fun c31 => ?_) (fun c31 => ?_)
      · refine SX.seq ?_
        refine SX.region ?_
        refine SXL.buildS pl_27 zp_27 rfl rfl ?_
        refine SXL.store 1 sz_27 rfl rfl rfl rfl rfl rfl ?_
        refine SXL.assign rfl ?_
        refine SXL.nil ?_
        refine thenQ.normal ?_
        refine SX.ret ?_
        refine thenQ.ret ?_
        refine blockQ.ret ?_
        refine thenQ.ret ?_
        refine thenQ.ret ?_
        refine blockQ.ret ?_
        refine thenQ.ret ?_
        refine retQ.dead [Sl.nil.ent 61 [], Sl.nil.ent 54 []] rfl ?_
        refine retQ.two (ResAt.cellNo 1 sh_27 rfl rfl rfl) (ResAt.tmp rfl) ?_
        have he : strikeE s ns = 12 := by rw [strikeE, if_neg (not_not_intro hv), if_pos (lastOf_bad hv hj c31)]
        rw [strike_bad he (by omega), he]; exact SpE.zero _
      · refine SX.skip ?_
        refine thenQ.normal ?_
        refine SX.region ?_
        refine SXL.move rfl ?_
        refine SXL.assign rfl ?_
        refine SXL.nil ?_
        refine blockQ.normal ?_
        refine thenQ.normal ?_
        refine SX.region ?_
        refine SXL.add rfl rfl (by omega) ?_
        refine SXL.move rfl ?_
        refine SXL.nil ?_
        refine thenQ.normal ?_
        refine ⟨j + 1, Meets.mk _ ⟨rfl, congrArg (fun z => some (Value.int .i64 z)) (show ns.getD j 0 = lastOf ns (j + 1) from by rw [lastOf, if_neg (by omega), Nat.add_sub_cancel]), trivial⟩ ⟨rfl, rfl, rfl, rfl, rfl, rfl, trivial⟩ rfl, ⟨by omega, hall.next (lastOf_next c31).2 (lastOf_lt (lastOf_next c31).1)⟩, (by omega)⟩
    · refine SX.exit ?_
      refine thenQ.exit ?_
      refine thenQ.exit ?_
      refine blockQ.exit ?_
      refine thenQ.normal ?_
      refine SX.seq ?_
      obtain rfl : j = ns.length := by omega
      refine SX.region ?_
      refine SXL.loadNo 0 sh_27 rfl rfl rfl ?_
      refine SXL.move rfl ?_
      refine SXL.callF (SpR (wo s ns)) fn_84 rfl (fun w hI => swithout_any s bo ro bc rc ns ao nc hn hb hr (nums_nodup hv.2.2) w (hs.inv hI) (ha0.inv hI)) ?_; rintro _ _ ⟨r1, r2, o1, o2, rfl, rfl⟩
      refine SXL.store 1 sz_27 rfl rfl rfl rfl rfl rfl ?_
      refine SXL.assign rfl ?_
      refine SXL.nil ?_
      refine thenQ.normal ?_
      refine SX.ret ?_
      refine retQ.sel [2, 3] rfl rfl ?_
      refine retQ.two (ResAt.cellNo 1 sh_27 rfl rfl rfl) (ResAt.tmp rfl) ?_
      have he : strikeE s ns = 0 := by rw [strikeE, if_neg (not_not_intro hv), if_neg (not_not_intro hall.all)]
      rw [strike_ok he, he]; exact ⟨r1, r2, o1, o2, rfl, rfl⟩
set_option maxHeartbeats 2000000 in
theorem rwrite_any (s : Sp) (bo ro : Option Addr) (bc rc : Nat) (y : Ln) (w : World) (hs : SpAt w s bo ro) :
    CallsR Tryd.prog 39 [.agg ⟨[.int .i64 s.weeks, .int .i64 s.most, .int .i64 s.fall, .int .i64 s.a0, .int .i64 s.a1, .int .i64 s.w0, .int .i64 s.w1, (.slice bo s.book.length bc), (.slice ro s.reads.length rc)]⟩, .agg ⟨y.cells⟩] w (SpE (writeS s y) (writeE s y)) := by
  refine CallsR.of_SX (n := 29) (rs := [.cell 4 27, .tmp 5]) Tryd.func39 rfl rfl rfl rfl ?_
  show SX _ _ _ ⟨[(0, .agg ⟨[.int .i64 s.weeks, .int .i64 s.most, .int .i64 s.fall, .int .i64 s.a0, .int .i64 s.a1, .int .i64 s.w0, .int .i64 s.w1, (.slice bo s.book.length bc), (.slice ro s.reads.length rc)]⟩), (1, .agg ⟨y.cells⟩)], [], []⟩
  refine SX.seq ?_
  refine SX.region ?_
  refine SXL.box rfl rfl ?_; intro b0
  refine SXL.box rfl rfl ?_; intro b1
  refine SXL.alloc zp_27 ?_; intro b2
  refine SXL.assign rfl ?_
  refine SXL.nil ?_
  refine thenQ.normal ?_
  refine SX.seq ?_
  refine SX.seq ?_
  refine SX.region ?_
  refine SXL.loadNo 0 sh_27 rfl rfl rfl ?_
  refine SXL.call1 (.bool (decide (SpP s))) fn_74 rfl (fun w hI => spring_any s bo ro bc rc _ (hs.inv hI)) ?_
  refine SXL.not rfl ?_
  refine SXL.nil ?_
  refine thenQ.normal ?_
  refine SX.condP rfl (fun c9 => ?_) (fun c9 => ?_)
  · refine SX.seq ?_
    refine SX.region ?_
    refine SXL.buildS pl_27 zp_27 rfl rfl ?_
    refine SXL.store 2 sz_27 rfl rfl rfl rfl rfl rfl ?_
    refine SXL.assign rfl ?_
    refine SXL.nil ?_
    refine thenQ.normal ?_
    refine SX.ret ?_
    refine thenQ.ret ?_
    refine retQ.dead [Sl.nil.ent 61 [], Sl.nil.ent 54 []] rfl ?_
    refine retQ.two (ResAt.cellNo 2 sh_27 rfl rfl rfl) (ResAt.tmp rfl) ?_
    have he : writeE s y = 10 := by rw [writeE, if_pos c9]
    rw [write_bad he (by omega), he]; exact SpE.zero _
  · refine SX.skip ?_
    refine thenQ.normal ?_
    refine SX.seq ?_
    refine SX.seq ?_
    have hv : SpP s := Decidable.not_not.1 c9
    have hH := hv.1
    unfold HeadP at hH
    refine SX.region ?_
    refine SXL.fieldAddr fp_27_5 rfl ?_
    refine SXL.load1o 0 sh_24 rfl rfl rfl ?_
    refine SXL.len is_24 rfl ?_
    refine SXL.eqlI rfl rfl ?_
    refine SXL.nil ?_
    refine thenQ.normal ?_
    refine SX.condP rfl (fun c14 => ?_) (fun c14 => ?_)
    · refine SX.seq ?_
      refine SX.region ?_
      refine SXL.buildS pl_27 zp_27 rfl rfl ?_
      refine SXL.store 2 sz_27 rfl rfl rfl rfl rfl rfl ?_
      refine SXL.assign rfl ?_
      refine SXL.nil ?_
      refine thenQ.normal ?_
      refine SX.ret ?_
      refine thenQ.ret ?_
      refine retQ.dead [Sl.nil.ent 61 [], Sl.nil.ent 54 []] rfl ?_
      refine retQ.two (ResAt.cellNo 2 sh_27 rfl rfl rfl) (ResAt.tmp rfl) ?_
      have he : writeE s y = 9 := by rw [writeE, if_neg (not_not_intro hv), if_pos (by omega)]
      rw [write_bad he (by omega), he]; exact SpE.zero _
    · refine SX.skip ?_
      refine thenQ.normal ?_
      refine SX.seq ?_
      refine SX.region ?_
      refine SXL.loadNo 0 sh_27 rfl rfl rfl ?_
      refine SXL.callF (SpR s) fn_17 rfl (fun w hI => twin_any s bo ro bc rc (by omega) (by omega) w (hs.inv hI)) ?_; rintro _ _ ⟨r1, r2, o1, o2, rfl, rfl⟩
      refine SXL.alloc zp_27 ?_; intro b5
      refine SXL.store 5 sz_27 rfl rfl rfl rfl rfl rfl ?_
      refine SXL.nil ?_
      refine thenQ.normal ?_
      refine SX.seq ?_
      refine SX.region ?_
      refine SXL.fieldAddr fp_27_5 rfl ?_
      refine SXL.load1o 5 sh_24 rfl rfl rfl ?_
      refine SXL.loadNo 1 sh_61 rfl rfl rfl ?_
      refine SXL.buildSlice et_24 zp_61 rfl rfl rfl rfl ?_; intro b6
      refine SXL.append 3 ap_24 rfl rfl o1 rfl (.inr ⟨_, _, rfl, Mem.own (i := 6) rfl (takeAt_all _)⟩) rfl rfl ⟨by simp only [maxLen]; omega, by omega⟩ ?_; intro r_22 o_22
      rw [show s.book.length + 1 = (withLine s y).book.length from by simp [withLine]] at o_22 ⊢
      refine SXL.fieldAddr fp_27_5 rfl ?_
      refine SXL.store 5 sz_24 rfl rfl rfl rfl rfl rfl ?_
      refine SXL.nil ?_
      refine thenQ.normal ?_
      refine SX.seq ?_
      refine SX.seq ?_
      refine SX.region ?_
      refine SXL.loadNo 5 sh_27 rfl rfl rfl ?_
      refine SXL.call1 (.bool (decide (SpP (withLine s y)))) fn_74 rfl (fun w hI => spring_any (withLine s y) r_22.addr r2.addr r_22.cap r2.cap _ (spAtOwn (s := (withLine s y)) hI (by rw [bookC_line]; exact o_22) o2 (i := 3) (j := 4) (by rw [bookC_line]; rfl) rfl)) ?_
      refine SXL.not rfl ?_
      refine SXL.nil ?_
      refine thenQ.normal ?_
      refine SX.condP rfl (fun c26 => ?_) (fun c26 => ?_)
      · refine SX.seq ?_
        refine SX.region ?_
        refine SXL.buildS pl_27 zp_27 rfl rfl ?_
        refine SXL.store 2 sz_27 rfl rfl rfl rfl rfl rfl ?_
        refine SXL.assign rfl ?_
        refine SXL.nil ?_
        refine thenQ.normal ?_
        refine SX.ret ?_
        refine thenQ.ret ?_
        refine retQ.dead [Sl.nil.ent 61 [], Sl.nil.ent 54 []] rfl ?_
        refine retQ.two (ResAt.cellNo 2 sh_27 rfl rfl rfl) (ResAt.tmp rfl) ?_
        have he : writeE s y = 13 := by rw [writeE, if_neg (not_not_intro hv), if_neg (by omega), if_pos c26]
        rw [write_bad he (by omega), he]; exact SpE.zero _
      · refine SX.skip ?_
        refine thenQ.normal ?_
        refine SX.seq ?_
        refine SX.region ?_
        refine SXL.loadNo 5 sh_27 rfl rfl rfl ?_
        refine SXL.store 2 sz_27 rfl rfl rfl rfl rfl rfl ?_
        refine SXL.assign rfl ?_
        refine SXL.nil ?_
        refine thenQ.normal ?_
        refine SX.ret ?_
        refine retQ.sel [3, 4] rfl rfl ?_
        refine retQ.two (ResAt.cellNo 2 sh_27 rfl rfl rfl) (ResAt.tmp rfl) ?_
        have he : writeE s y = 0 := by rw [writeE, if_neg (not_not_intro hv), if_neg (by omega), if_neg c26]
        rw [write_ok he, he]; exact ⟨r_22, r2, by rw [bookC_line]; exact o_22, o2, rfl, by rw [bookC_line]; rfl⟩
set_option maxHeartbeats 2000000 in
theorem swrite_any (s : Sp) (bo ro : Option Addr) (bc rc : Nat) (y : Ln) (hb : s.book.length ≤ 1000000) (hr : s.reads.length ≤ 1000000) (w : World) (hg : Gl w) (hs : SpAt w s bo ro) :
    CallsR Tryd.prog 38 [.agg ⟨[.int .i64 s.weeks, .int .i64 s.most, .int .i64 s.fall, .int .i64 s.a0, .int .i64 s.a1, .int .i64 s.w0, .int .i64 s.w1, (.slice bo s.book.length bc), (.slice ro s.reads.length rc)]⟩, .agg ⟨y.cells⟩] w (SpE (writeS s y) (writeE s y)) := by
  refine CallsR.of_SX (n := 31) (rs := [.cell 4 27, .tmp 5]) Tryd.func38 rfl rfl rfl rfl ?_
  show SX _ _ _ ⟨[(0, .agg ⟨[.int .i64 s.weeks, .int .i64 s.most, .int .i64 s.fall, .int .i64 s.a0, .int .i64 s.a1, .int .i64 s.w0, .int .i64 s.w1, (.slice bo s.book.length bc), (.slice ro s.reads.length rc)]⟩), (1, .agg ⟨y.cells⟩)], [], []⟩
  refine SX.seq ?_
  refine SX.region ?_
  refine SXL.box rfl rfl ?_; intro b0
  refine SXL.box rfl rfl ?_; intro b1
  refine SXL.alloc zp_27 ?_; intro b2
  refine SXL.assign rfl ?_
  refine SXL.nil ?_
  refine thenQ.normal ?_
  refine SX.seq ?_
  refine SX.seq ?_
  refine SX.region ?_
  refine SXL.loadNo 0 sh_27 rfl rfl rfl ?_
  refine SXL.call1 (.int .i64 (if SpP s then 0 else 10)) fn_26 rfl (fun w hI => scheck_any s bo ro bc rc hb hr _ (hg.inv hI) (hs.inv hI)) ?_
  refine SXL.assign rfl ?_
  refine SXL.nil ?_
  refine thenQ.normal ?_
  refine SX.seq ?_
  refine SX.region ?_
  refine SXL.move rfl ?_
  refine SXL.neqI rfl rfl ?_
  refine SXL.nil ?_
  refine thenQ.normal ?_
  refine SX.condP rfl (fun c10 => ?_) (fun c10 => ?_)
  · refine SX.seq ?_
    have hv : ¬SpP s := fun h => c10 (by rw [if_pos h])
    refine SX.region ?_
    refine SXL.buildS pl_27 zp_27 rfl rfl ?_
    refine SXL.move rfl ?_
    refine SXL.store 2 sz_27 rfl rfl rfl rfl rfl rfl ?_
    refine SXL.assign rfl ?_
    refine SXL.nil ?_
    refine thenQ.normal ?_
    refine SX.ret ?_
    refine thenQ.ret ?_
    refine retQ.dead [Sl.nil.ent 61 [], Sl.nil.ent 54 []] rfl ?_
    refine retQ.two (ResAt.cellNo 2 sh_27 rfl rfl rfl) (ResAt.tmp rfl) ?_
    rw [if_neg hv]
    have he : writeE s y = 10 := by rw [writeE, if_pos hv]
    rw [write_bad he (by omega), he]; exact SpE.zero _
  · refine SX.skip ?_
    refine thenQ.normal ?_
    refine SX.seq ?_
    refine SX.seq ?_
    have hv : SpP s := Decidable.byContradiction fun h => c10 (by rw [if_neg h]; omega)
    have hH := hv.1
    unfold HeadP at hH
    refine SX.region ?_
    refine SXL.fieldAddr fp_27_5 rfl ?_
    refine SXL.load1o 0 sh_24 rfl rfl rfl ?_
    refine SXL.len is_24 rfl ?_
    refine SXL.eqlI rfl rfl ?_
    refine SXL.nil ?_
    refine thenQ.normal ?_
    refine SX.condP rfl (fun c16 => ?_) (fun c16 => ?_)
    · refine SX.seq ?_
      refine SX.region ?_
      refine SXL.buildS pl_27 zp_27 rfl rfl ?_
      refine SXL.store 2 sz_27 rfl rfl rfl rfl rfl rfl ?_
      refine SXL.assign rfl ?_
      refine SXL.nil ?_
      refine thenQ.normal ?_
      refine SX.ret ?_
      refine thenQ.ret ?_
      refine retQ.dead [Sl.nil.ent 61 [], Sl.nil.ent 54 []] rfl ?_
      refine retQ.two (ResAt.cellNo 2 sh_27 rfl rfl rfl) (ResAt.tmp rfl) ?_
      have he : writeE s y = 9 := by rw [writeE, if_neg (not_not_intro hv), if_pos (by omega)]
      rw [write_bad he (by omega), he]; exact SpE.zero _
    · refine SX.skip ?_
      refine thenQ.normal ?_
      refine SX.seq ?_
      refine SX.region ?_
      refine SXL.loadNo 0 sh_27 rfl rfl rfl ?_
      refine SXL.callF (SpR s) fn_84 rfl (fun w hI => (swithout_any s bo ro bc rc [] none 0 (by simp) hb hr (nums_nodup hv.2.2) w (hs.inv hI) (.nil _ _ _)).mono (fun v own h => by rw [wo_nil] at h; exact h)) ?_; rintro _ _ ⟨r1, r2, o1, o2, rfl, rfl⟩
      refine SXL.store 0 sz_27 rfl rfl rfl rfl rfl rfl ?_
      refine SXL.nil ?_
      refine thenQ.normal ?_
      refine SX.seq ?_
      refine SX.region ?_
      refine SXL.fieldAddr fp_27_5 rfl ?_
      refine SXL.load1o 0 sh_24 rfl rfl rfl ?_
      refine SXL.loadNo 1 sh_61 rfl rfl rfl ?_
      refine SXL.buildSlice et_24 zp_61 rfl rfl rfl rfl ?_; intro b5
      refine SXL.append 3 ap_24 rfl rfl o1 rfl (.inr ⟨_, _, rfl, Mem.own (i := 5) rfl (takeAt_all _)⟩) rfl rfl ⟨by simp only [maxLen]; omega, by omega⟩ ?_; intro r_24 o_24
      rw [show s.book.length + 1 = (withLine s y).book.length from by simp [withLine]] at o_24 ⊢
      refine SXL.fieldAddr fp_27_5 rfl ?_
      refine SXL.store 0 sz_24 rfl rfl rfl rfl rfl rfl ?_
      refine SXL.nil ?_
      refine thenQ.normal ?_
      refine SX.seq ?_
      refine SX.seq ?_
      refine SX.region ?_
      refine SXL.loadNo 0 sh_27 rfl rfl rfl ?_
      refine SXL.call1 (.int .i64 (if SpP (withLine s y) then 0 else 10)) fn_26 rfl (fun w hI => scheck_any (withLine s y) r_24.addr r2.addr r_24.cap r2.cap (by simp [withLine]; omega) hr _ (hg.inv hI) (spAtOwn (s := (withLine s y)) hI (by rw [bookC_line]; exact o_24) o2 (i := 3) (j := 4) (by rw [bookC_line]; rfl) rfl)) ?_
      refine SXL.neqI rfl rfl ?_
      refine SXL.nil ?_
      refine thenQ.normal ?_
      refine SX.condP rfl (fun c28 => ?_) (fun c28 => ?_)
      · refine SX.seq ?_
        have hw : ¬SpP (withLine s y) := fun h => c28 (by rw [if_pos h])
        refine SX.region ?_
        refine SXL.buildS pl_27 zp_27 rfl rfl ?_
        refine SXL.store 2 sz_27 rfl rfl rfl rfl rfl rfl ?_
        refine SXL.assign rfl ?_
        refine SXL.nil ?_
        refine thenQ.normal ?_
        refine SX.ret ?_
        refine thenQ.ret ?_
        refine retQ.dead [Sl.nil.ent 61 [], Sl.nil.ent 54 []] rfl ?_
        refine retQ.two (ResAt.cellNo 2 sh_27 rfl rfl rfl) (ResAt.tmp rfl) ?_
        have he : writeE s y = 13 := by rw [writeE, if_neg (not_not_intro hv), if_neg (by omega), if_pos hw]
        rw [write_bad he (by omega), he]; exact SpE.zero _
      · refine SX.skip ?_
        refine thenQ.normal ?_
        refine SX.seq ?_
        have hw : SpP (withLine s y) := Decidable.byContradiction fun h => c28 (by rw [if_neg h]; omega)
        refine SX.region ?_
        refine SXL.loadNo 0 sh_27 rfl rfl rfl ?_
        refine SXL.store 2 sz_27 rfl rfl rfl rfl rfl rfl ?_
        refine SXL.assign rfl ?_
        refine SXL.nil ?_
        refine thenQ.normal ?_
        refine SX.ret ?_
        refine retQ.sel [3, 4] rfl rfl ?_
        refine retQ.two (ResAt.cellNo 2 sh_27 rfl rfl rfl) (ResAt.tmp rfl) ?_
        have he : writeE s y = 0 := by rw [writeE, if_neg (not_not_intro hv), if_neg (by omega), if_neg (not_not_intro hw)]
        rw [write_ok he, he]; exact ⟨r_24, r2, by rw [bookC_line]; exact o_24, o2, rfl, by rw [bookC_line]; rfl⟩
end Go.Proofs.YtknflipongbngaaDoor

/- The calculus' rules: '==' on bools. Nothing of the program stands here. -/
namespace Go.X
open Go Go.RowKit
def isBoolP (P : Program) (t : TypeId) : Bool := match P.underlying t with | some .bool => true | _ => false
theorem run_equal_bool {P : Program} {T : TypeId} {w : World} (h : isBoolP P T = true) (a b : Bool) : (Op.equal T (.bool a) (.bool b)).run P w = .ok (a == b) w := by
  unfold isBoolP at h
  split at h
  · rename_i hu
    show (Op.equalIn (9999 + 1) T (.bool a) (.bool b)).run P w = _
    unfold Op.equalIn
    simp [run_underlying hu, Result.andThen]
  · cases h
section
variable {C : Cx} {Q : Post} {env : Env} {own : Own} {D : List Deferred} {ops : Array Oper} {rest : List Oper}
variable {d : Nat} {ty : TypeId} {pos : String} {aft : Array Edge} {g : Option (Nat × Bool)} {x y : Operand} {T T' : TypeId} {p q : Prop} [Decidable p] [Decidable q]
theorem SXL.eqlB (hT : isBoolP C.P T = true) (hx : ev env x = some (.bool (decide p))) (hy : ev env y = some (.bool (decide q)))
    (h : SXL C ops rest Q ⟨(d, .bool (decide (p ↔ q))) :: env, own, D⟩) (hd : Nat.blt d C.n = true := by rfl) (hw : Wanted ops g env = some true := by rfl) :
    SXL C ops ({ dst := some d, op := .binOp .eql T x y T', type := ty, pos, after := aft, guard := g } :: rest) Q ⟨env, own, D⟩ :=
  SXL.bin hx hy (r := .bool (decide (p ↔ q))) (fun w => by by_cases hp : p <;> by_cases hq : q <;> simp [eqGuard, binOp, hp, hq, run_equal_bool hT, Result.andThen]) hd hw h
theorem SXL.neqB (hT : isBoolP C.P T = true) (hx : ev env x = some (.bool (decide p))) (hy : ev env y = some (.bool (decide q)))
    (h : SXL C ops rest Q ⟨(d, .bool (decide (¬(p ↔ q)))) :: env, own, D⟩) (hd : Nat.blt d C.n = true := by rfl) (hw : Wanted ops g env = some true := by rfl) :
    SXL C ops ({ dst := some d, op := .binOp .neq T x y T', type := ty, pos, after := aft, guard := g } :: rest) Q ⟨env, own, D⟩ :=
  SXL.bin hx hy (r := .bool (decide (¬(p ↔ q)))) (fun w => by by_cases hp : p <;> by_cases hq : q <;> simp [eqGuard, binOp, hp, hq, run_equal_bool hT, Result.andThen]) hd hw h
/-! ### where both sides are known to be the same -/
theorem SXL.eqlT {k : IntKind} {A : Int} (hx : ev env x = some (.int k A)) (hy : ev env y = some (.int k A))
    (h : SXL C ops rest Q ⟨(d, .bool true) :: env, own, D⟩) (hd : Nat.blt d C.n = true := by rfl) (hw : Wanted ops g env = some true := by rfl) :
    SXL C ops ({ dst := some d, op := .binOp .eql T x y T', type := ty, pos, after := aft, guard := g } :: rest) Q ⟨env, own, D⟩ :=
  SXL.eqlI hx hy (by rw [decide_eq_true (p := A = A) rfl]; exact h) hd hw
theorem SXL.neqF {k : IntKind} {A : Int} (hx : ev env x = some (.int k A)) (hy : ev env y = some (.int k A))
    (h : SXL C ops rest Q ⟨(d, .bool false) :: env, own, D⟩) (hd : Nat.blt d C.n = true := by rfl) (hw : Wanted ops g env = some true := by rfl) :
    SXL C ops ({ dst := some d, op := .binOp .neq T x y T', type := ty, pos, after := aft, guard := g } :: rest) Q ⟨env, own, D⟩ :=
  SXL.neqI hx hy (by rw [decide_eq_false (p := A ≠ A) (fun h => h rfl)]; exact h) hd hw
theorem SXL.eqlVT {xs : List Int} {n : Nat} (he : eqP C.P 5 T = some n) (hg : C.P.eqGuardType C.P.depth T = false) (hs : shapeT C.P T = some (some n)) (hl : xs.length = n) (hx : ev env x = some (.agg ⟨ints xs⟩)) (hy : ev env y = some (.agg ⟨ints xs⟩))
    (h : SXL C ops rest Q ⟨(d, .bool true) :: env, own, D⟩) (hd : Nat.blt d C.n = true := by rfl) (hw : Wanted ops g env = some true := by rfl) :
    SXL C ops ({ dst := some d, op := .binOp .eql T x y T', type := ty, pos, after := aft, guard := g } :: rest) Q ⟨env, own, D⟩ :=
  SXL.eqlV (p := xs = xs) hx hy (run_eql_ints he hg hs hl hl) (by rw [decide_eq_true (p := xs = xs) rfl]; exact h) hd hw
theorem SXL.neqVF {xs : List Int} {n : Nat} (he : eqP C.P 5 T = some n) (hg : C.P.eqGuardType C.P.depth T = false) (hs : shapeT C.P T = some (some n)) (hl : xs.length = n) (hx : ev env x = some (.agg ⟨ints xs⟩)) (hy : ev env y = some (.agg ⟨ints xs⟩))
    (h : SXL C ops rest Q ⟨(d, .bool false) :: env, own, D⟩) (hd : Nat.blt d C.n = true := by rfl) (hw : Wanted ops g env = some true := by rfl) :
    SXL C ops ({ dst := some d, op := .binOp .neq T x y T', type := ty, pos, after := aft, guard := g } :: rest) Q ⟨env, own, D⟩ :=
  SXL.neqV (p := xs ≠ xs) hx hy (run_neq_ints he hg hs hl hl) (by rw [decide_eq_false (p := xs ≠ xs) (fun h => h rfl)]; exact h) hd hw
theorem SXL.notF (hx : ev env x = some (.bool true))
    (h : SXL C ops rest Q ⟨(d, .bool false) :: env, own, D⟩) (hd : Nat.blt d C.n = true := by rfl) (hw : Wanted ops g env = some true := by rfl) :
    SXL C ops ({ dst := some d, op := .unOp .not T x, type := ty, pos, after := aft, guard := g } :: rest) Q ⟨env, own, D⟩ :=
  SXL.not (p := True) hx (by rw [decide_eq_false (p := ¬True) (fun h => h trivial)]; exact h) hd hw
end
end Go.X

/- How long lists are that are handed back. Nothing of Go stands here. -/
namespace Go.S
theorem struckFrom_len {s : Sp} {rec : Nat → List Int → Option (List Int)} {l : List Int} {m : Nat} (hrec : ∀ i l r, rec i l = some r → r.length = l.length + m) : ∀ (f i : Nat) {r : List Int}, struckFrom rec s l i f = some r → r.length = l.length + (m + 1)
  | 0, _, _, h => by cases h
  | f + 1, i, r, h => by
    simp only [struckFrom] at h
    split at h
    · rename_i r' hr
      have := hrec _ _ _ hr
      obtain rfl := Option.some.inj h
      rw [this]; simp; omega
    · exact struckFrom_len hrec f (i + 1) h
theorem struck_len {s : Sp} : ∀ (m i : Nat) (l : List Int) {r : List Int}, struckP s m i l = some r → r.length = l.length + m
  | 0, _, l, r, h => by
    simp only [struckP] at h
    split at h
    · obtain rfl := Option.some.inj h; rfl
    · cases h
  | m + 1, i, l, r, h => struckFrom_len (fun i l r h => struck_len m i l h) _ _ h
theorem wrongF_len {s : Sp} {r : List Int} (h : wrongF s = some r) : r.length ≤ 2 := by
  unfold wrongF at h
  split at h
  · rename_i r' hr
    obtain rfl := Option.some.inj h
    have := struck_len 0 0 [] hr; simp only [List.length_nil] at this; omega
  · split at h
    · rename_i r' hr
      obtain rfl := Option.some.inj h
      have := struck_len 1 0 [] hr; simp only [List.length_nil] at this; omega
    · have := struck_len 2 0 [] h; simp only [List.length_nil] at this; omega
theorem wrongL_len (s : Sp) : (wrongL s).length ≤ 2 := by
  unfold wrongL
  split
  · cases h : wrongF s with
    | none => simp
    | some r => exact wrongF_len h
  · simp
theorem restsL_len (s : Sp) (week : Int) : (restsL s week).length ≤ s.reads.length := by
  unfold restsL
  split
  · exact restsTo_len _ _ _
  · simp
end Go.S

/- The examples: what is told of them. -/
namespace Go.Proofs.YtknflipongbngaaDoor
open Go.X Go.S Go.RowKit
/-- The spring of the examples, with readings more. -/
def fntM (more : List Rd) : Sp := ⟨4, 40, 8, 60, 70, 3, 5, [⟨0, 3, 2, 5, 12⟩, ⟨4, 9, 2, 10, 25⟩], ⟨1, 0, 10, 18, 20⟩ :: more⟩
def fnt : Sp := fntM []
def oddR : Rd := ⟨3, 1, 10, 9, 10⟩
def oddS : Sp := fntM [oddR]
theorem rowsRdSrc {w : World} {l : List Rd} {ao : Option Addr} (h : RowsAt w ao 5 (l.map Rd.cells)) (own : X.Own) : Src w own ao l.length (rdC l) := by
  have := h.src (by omega) (by intro q hq; obtain ⟨x, _, rfl⟩ := List.mem_map.1 hq; rfl) own
  rwa [List.length_map] at this
theorem rdC_len (l : List Rd) : (rdC l).length = l.length * 5 := by
  rw [rdC, length_flatten (k := 5) (by intro q hq; obtain ⟨x, _, rfl⟩ := List.mem_map.1 hq; rfl), List.length_map]
theorem rdC_one (l : List Rd) : (rdC l).all isOne = true := by
  rw [List.all_eq_true]; intro v hv
  obtain ⟨q, hq, hv⟩ := List.mem_flatten.1 hv
  obtain ⟨x, _, rfl⟩ := List.mem_map.1 hq
  simp [Rd.cells] at hv
  rcases hv with rfl | rfl | rfl | rfl | rfl <;> rfl
theorem mkSpan_any (a b : Int) (w : World) :
    CallsR Tryd.prog 63 [.int .i64 a, .int .i64 b] w (fun v _ => v = .agg ⟨[.int .i64 a, .int .i64 b]⟩) := by
  refine CallsR.of_SX (n := 8) (rs := [.cell 4 23]) Tryd.func63 rfl rfl rfl rfl ?_
  show SX _ _ _ ⟨[(0, .int .i64 a), (1, .int .i64 b)], [], []⟩
  refine SX.seq ?_
  refine SX.region ?_
  refine SXL.alloc zp_23 ?_; intro b0
  refine SXL.nil ?_
  refine thenQ.normal ?_
  refine SX.seq ?_
  refine SX.region ?_
  refine SXL.move rfl ?_
  refine SXL.move rfl ?_
  refine SXL.buildS pl_23 zp_23 rfl rfl ?_
  refine SXL.store 0 sz_23 rfl rfl rfl rfl rfl rfl ?_
  refine SXL.nil ?_
  refine thenQ.normal ?_
  refine SX.ret ?_
  refine retQ.one (ResAt.cellNo 0 sh_23 rfl rfl rfl) ?_
  rfl
theorem mkRd_any (x : Rd) (w : World) :
    CallsR Tryd.prog 69 [.int .i64 x.num, .int .i64 x.wk, .int .i64 x.bu, .int .i64 x.s0, .int .i64 x.s1] w (fun v _ => v = .agg ⟨x.cells⟩) := by
  refine CallsR.of_SX (n := 18) (rs := [.cell 10 54]) Tryd.func69 rfl rfl rfl rfl ?_
  show SX _ _ _ ⟨[(0, .int .i64 x.num), (1, .int .i64 x.wk), (2, .int .i64 x.bu), (3, .int .i64 x.s0), (4, .int .i64 x.s1)], [], []⟩
  refine SX.seq ?_
  refine SX.region ?_
  refine SXL.alloc zp_54 ?_; intro b0
  refine SXL.nil ?_
  refine thenQ.normal ?_
  refine SX.seq ?_
  refine SX.region ?_
  refine SXL.move rfl ?_
  refine SXL.move rfl ?_
  refine SXL.move rfl ?_
  refine SXL.move rfl ?_
  refine SXL.move rfl ?_
  refine SXL.call1 (.agg ⟨[.int .i64 x.s0, .int .i64 x.s1]⟩) fn_63 rfl (fun w hI => mkSpan_any _ _ _) ?_
  refine SXL.buildS pl_54 zp_54 rfl rfl ?_
  refine SXL.store 0 sz_54 rfl rfl rfl rfl rfl rfl ?_
  refine SXL.nil ?_
  refine thenQ.normal ?_
  refine SX.ret ?_
  refine retQ.one (ResAt.cellNo 0 sh_54 rfl rfl rfl) ?_
  rfl
set_option maxHeartbeats 1000000 in
theorem fountain_any (more : List Rd) (mo : Option Addr) (mc : Nat) (hm : more.length ≤ 1000) (w : World) (h : RowsAt w mo 5 (more.map Rd.cells)) :
    CallsR Tryd.prog 67 [.slice mo more.length mc] w (SpR (fntM more)) := by
  refine CallsR.of_SX (n := 17) (rs := [.cell 2 27]) Tryd.func67 rfl rfl rfl rfl ?_
  show SX _ _ _ ⟨[(0, .slice mo more.length mc)], [], []⟩
  refine SX.seq ?_
  refine SX.region ?_
  refine SXL.alloc zp_27 ?_; intro b0
  refine SXL.nil ?_
  refine thenQ.normal ?_
  refine SX.seq ?_
  refine SX.region ?_
  refine SXL.call1 (.agg ⟨[.int .i64 60, .int .i64 70]⟩) fn_63 rfl (fun w hI => mkSpan_any _ _ _) ?_
  refine SXL.call1 (.agg ⟨[.int .i64 3, .int .i64 5]⟩) fn_63 rfl (fun w hI => mkSpan_any _ _ _) ?_
  refine SXL.call1 (.agg ⟨[.int .i64 0, .int .i64 3]⟩) fn_63 rfl (fun w hI => mkSpan_any _ _ _) ?_
  refine SXL.call1 (.agg ⟨[.int .i64 5, .int .i64 12]⟩) fn_63 rfl (fun w hI => mkSpan_any _ _ _) ?_
  refine SXL.buildS pl_61 zp_61 rfl rfl ?_
  refine SXL.call1 (.agg ⟨[.int .i64 4, .int .i64 9]⟩) fn_63 rfl (fun w hI => mkSpan_any _ _ _) ?_
  refine SXL.call1 (.agg ⟨[.int .i64 10, .int .i64 25]⟩) fn_63 rfl (fun w hI => mkSpan_any _ _ _) ?_
  refine SXL.buildS pl_61 zp_61 rfl rfl ?_
  refine SXL.buildSlice et_24 zp_61 rfl rfl rfl rfl ?_; intro b1
  refine SXL.call1 (.agg ⟨(Rd.mk 1 0 10 18 20).cells⟩) fn_69 rfl (fun w hI => mkRd_any ⟨1, 0, 10, 18, 20⟩ _) ?_
  refine SXL.buildSlice et_25 zp_54 rfl rfl rfl rfl ?_; intro b2
  refine SXL.move rfl ?_
  refine SXL.append (r := ⟨some b2, 1, []⟩) (cells := (Rd.mk 1 0 10 18 20).cells) 2 ap_25 rfl rfl ⟨rfl, Nat.le_refl _, (by simp only [maxLen]; omega), (fun h => by cases h), (fun _ _ => rfl)⟩ rfl (rowsRdSrc h _) (rdC_len _) (rdC_one _) ⟨by simp only [maxLen]; omega, by omega⟩ ?_; intro r_15 o_15; rw [show 1 + more.length = (fntM more).reads.length from by simp [fntM]; omega] at o_15 ⊢
  refine SXL.buildS pl_27 zp_27 rfl rfl ?_
  refine SXL.store 0 sz_27 rfl rfl rfl rfl rfl rfl ?_
  refine SXL.nil ?_
  refine thenQ.normal ?_
  refine SX.ret ?_
  refine retQ.sel [1, 2] rfl rfl ?_
  refine retQ.one (ResAt.cellNo 0 sh_27 rfl rfl rfl) ?_
  exact ⟨⟨some b1, 2, []⟩, r_15, ⟨rfl, Nat.le_refl _, (by simp only [maxLen]; omega), (fun h => by cases h), (fun _ _ => rfl)⟩, o_15, rfl, rfl⟩
theorem odd_any (w : World) :
    CallsR Tryd.prog 68 [] w (SpR oddS) := by
  refine CallsR.of_SX (n := 4) (rs := [.cell 0 27]) Tryd.func68 rfl rfl rfl rfl ?_
  show SX _ _ _ ⟨[], [], []⟩
  refine SX.seq ?_
  refine SX.region ?_
  refine SXL.alloc zp_27 ?_; intro b0
  refine SXL.nil ?_
  refine thenQ.normal ?_
  refine SX.seq ?_
  refine SX.region ?_
  refine SXL.call1 (.agg ⟨oddR.cells⟩) fn_69 rfl (fun w hI => mkRd_any oddR _) ?_
  refine SXL.buildSlice et_25 zp_54 rfl rfl rfl rfl ?_; intro b1
  refine SXL.callF (SpR oddS) fn_67 rfl (fun w hI => fountain_any [oddR] (some ⟨b1, 0, none⟩) 1 (by simp) w (RowsAt.ofOwn hI (i := 1) rfl (fun i r hr j u hj => by
        have hi : i = 0 := by have := (List.getElem?_eq_some_iff.1 hr).1; simpa using this
        subst hi
        simp at hr; subst hr
        rw [Nat.zero_mul, Nat.zero_add]; exact hj))) ?_; rintro _ _ ⟨r1, r2, o1, o2, rfl, rfl⟩
  refine SXL.store 0 sz_27 rfl rfl rfl rfl rfl rfl ?_
  refine SXL.nil ?_
  refine thenQ.normal ?_
  refine SX.ret ?_
  refine retQ.sel [2, 3] rfl rfl ?_
  refine retQ.one (ResAt.cellNo 0 sh_27 rfl rfl rfl) ?_
  exact ⟨r1, r2, o1, o2, rfl, rfl⟩
theorem is_any (l m : List Int) (e : Int) (lo mo : Option Addr) (lc mc : Nat) (hl : l.length ≤ 1000000) (w : World) (h1 : RowsAt w lo 1 (ones l)) (h2 : RowsAt w mo 1 (ones m)) :
    CallsR Tryd.prog 108 [.slice lo l.length lc, .int .i64 e, .slice mo m.length mc] w (fun v _ => v = .bool (decide (e = 0 ∧ l = m))) := by
  refine CallsR.of_SX (n := 14) (rs := [.tmp 6]) Tryd.func108 rfl rfl rfl rfl ?_
  show SX _ _ _ ⟨[(0, .slice lo l.length lc), (1, .int .i64 e), (2, .slice mo m.length mc)], [], []⟩
  refine SX.seq ?_
  refine SX.region ?_
  refine SXL.assign rfl ?_
  refine SXL.nil ?_
  refine thenQ.normal ?_
  refine SX.seq ?_
  refine SX.region ?_
  refine SXL.move rfl ?_
  refine SXL.eqlI rfl rfl ?_
  refine SXL.move rfl ?_
  apply SXL.andG 3
  case hl => exact rfl
  case hd => exact rfl
  case hg => exact rfl
  case ht =>
    intro g1
    refine SXL.move rfl ?_
    refine SXL.move rfl ?_
    refine SXL.call1 (.bool (decide (l = m))) fn_28 rfl (fun w hI => sameInts_any l m lo mo lc mc hl _ (h1.inv hI) (h2.inv hI)) ?_
    exact SXL.nil (segQ.mk (.skip rfl (.skip rfl (.skip rfl (.skip rfl (EnvSub.refl _))))) rfl rfl ⟨rfl, rfl⟩)
  case hf =>
    intro g1
    refine SXL.pass rfl rfl rfl ?_
    refine SXL.pass rfl rfl rfl ?_
    refine SXL.pass rfl rfl rfl ?_
    exact SXL.nil (segQ.mk (.skip rfl (.skip rfl (.skip rfl (.skip rfl (EnvSub.refl _))))) rfl rfl rfl)
  refine SXL.assign rfl ?_
  refine SXL.nil ?_
  refine thenQ.normal ?_
  refine SX.ret ?_
  refine retQ.one (ResAt.tmp rfl) ?_
  first | rfl | assumption
theorem ready_any (s : Sp) (bo ro : Option Addr) (bc rc : Nat) (w : World) (hs : SpAt w s bo ro) :
    CallsR Tryd.prog 55 [.agg ⟨[.int .i64 s.weeks, .int .i64 s.most, .int .i64 s.fall, .int .i64 s.a0, .int .i64 s.a1, .int .i64 s.w0, .int .i64 s.w1, (.slice bo s.book.length bc), (.slice ro s.reads.length rc)]⟩] w (fun v _ => v = .bool (decide (¬((30 : Int) < (s.book.length : Int) ∨ (30 : Int) < (s.reads.length : Int)) ∧ SpP s))) := by
  refine CallsR.of_SX (n := 10) (rs := [.tmp 2]) Tryd.func55 rfl rfl rfl rfl ?_
  show SX _ _ _ ⟨[(0, .agg ⟨[.int .i64 s.weeks, .int .i64 s.most, .int .i64 s.fall, .int .i64 s.a0, .int .i64 s.a1, .int .i64 s.w0, .int .i64 s.w1, (.slice bo s.book.length bc), (.slice ro s.reads.length rc)]⟩)], [], []⟩
  refine SX.seq ?_
  refine SX.region ?_
  refine SXL.box rfl rfl ?_; intro b0
  refine SXL.assign rfl ?_
  refine SXL.nil ?_
  refine thenQ.normal ?_
  refine SX.seq ?_
  refine SX.region ?_
  refine SXL.loadNo 0 sh_27 rfl rfl rfl ?_
  refine SXL.call1 (.bool (decide ((30 : Int) < (s.book.length : Int) ∨ (30 : Int) < (s.reads.length : Int)))) fn_16 rfl (fun w hI => great_any s bo ro bc rc _) ?_
  refine SXL.not rfl ?_
  refine SXL.move rfl ?_
  apply SXL.andG 2
  case hl => exact rfl
  case hd => exact rfl
  case hg => exact rfl
  case ht =>
    intro g1
    refine SXL.loadNo 0 sh_27 rfl rfl rfl ?_
    refine SXL.call1 (.bool (decide (SpP s))) fn_74 rfl (fun w hI => spring_any s bo ro bc rc _ (hs.inv hI)) ?_
    exact SXL.nil (segQ.mk (.skip rfl (.skip rfl (.skip rfl (EnvSub.refl _)))) rfl rfl ⟨rfl, rfl⟩)
  case hf =>
    intro g1
    refine SXL.pass rfl rfl rfl ?_
    refine SXL.pass rfl rfl rfl ?_
    exact SXL.nil (segQ.mk (.skip rfl (.skip rfl (.skip rfl (EnvSub.refl _)))) rfl rfl rfl)
  refine SXL.assign rfl ?_
  refine SXL.nil ?_
  refine thenQ.normal ?_
  refine SX.ret ?_
  refine retQ.one (ResAt.tmp rfl) ?_
  first | rfl | assumption
theorem fx_valid : SpP fnt := by decide +kernel
theorem fx_read : readLo fnt ⟨1, 0, 10, 18, 20⟩ = 26 ∧ readHi fnt ⟨1, 0, 10, 18, 20⟩ = 33 ∧ readE fnt ⟨1, 0, 10, 18, 20⟩ = 0 := by decide +kernel
theorem fx_can : SpP fnt ∧ TrueP fnt := by decide +kernel
theorem fx_told : toldL fnt 0 = [3, 4, 5] ∧ toldE fnt 0 = 0 := by decide +kernel
theorem fx_gives : givesLo fnt 1 = 18 ∧ givesHi fnt 1 = 33 ∧ toldE fnt 1 = 0 := by decide +kernel
theorem fx_known : knownV fnt 2 10 = 2 ∧ toldE fnt 2 = 0 := by decide +kernel
theorem fx_fails : wkV fnt (loI fnt 20) = 1 ∧ wkE fnt (loI fnt 20) = 0 := by decide +kernel
theorem fx_surely : wkV fnt (hiI fnt 26) = 2 ∧ wkE fnt (hiI fnt 26) = 0 := by decide +kernel
theorem fx_poor : bestR fnt (poorI fnt) = 3 ∧ bestL fnt 0 (poorI fnt) = [26, 18, 10, 2] := by decide +kernel
theorem fx_rich : bestR fnt (richI fnt) = 4 ∧ bestL fnt 10 (richI fnt) = [33, 33, 25, 25] := by decide +kernel
theorem fx_fill : fillLo fnt 3 1 = 144 ∧ fillHi fnt 3 1 = 1800 ∧ fillE fnt 3 1 = 0 := by decide +kernel
theorem fx_look : lookW fnt = 2 ∧ lookV fnt = 23 := by decide +kernel
theorem fx_rests : restsL fnt 0 = [1] := by decide +kernel
theorem fx_wrong : wrongL oddS = [3] ∧ wrongE oddS = 0 := by decide +kernel
theorem fx_strike : strikeS oddS [3] = fnt ∧ strikeE oddS [3] = 0 := by decide +kernel
end Go.Proofs.YtknflipongbngaaDoor
