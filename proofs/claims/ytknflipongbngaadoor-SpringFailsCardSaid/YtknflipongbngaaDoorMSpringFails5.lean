/- SpringFails: whatever the input, the law returns true and the input reads as it did. Its condition: the package's variables are as the program's text lays them (the card ties them). -/
import Derived.Test.YtknflipongbngaaDoorMSpringFails4
import Derived.SevenTiedAt
/- The walks of functions. -/
namespace Go.Proofs.YtknflipongbngaaDoor
open Go.X Go.S
theorem great_any (s : Sp) (bo ro : Option Addr) (bc rc : Nat) (w : World) :
    CallsR Tryd.prog 16 [.agg ⟨[.int .i64 s.weeks, .int .i64 s.most, .int .i64 s.fall, .int .i64 s.a0, .int .i64 s.a1, .int .i64 s.w0, .int .i64 s.w1, (.slice bo s.book.length bc), (.slice ro s.reads.length rc)]⟩] w (fun v _ => v = .bool (decide ((30 : Int) < (s.book.length : Int) ∨ (30 : Int) < (s.reads.length : Int)))) := by
  refine CallsR.of_SX (n := 13) (rs := [.tmp 2]) Tryd.func16 rfl rfl rfl rfl ?_
  show SX _ _ _ ⟨[(0, .agg ⟨[.int .i64 s.weeks, .int .i64 s.most, .int .i64 s.fall, .int .i64 s.a0, .int .i64 s.a1, .int .i64 s.w0, .int .i64 s.w1, (.slice bo s.book.length bc), (.slice ro s.reads.length rc)]⟩)], [], []⟩
  refine SX.seq ?_
  refine SX.region ?_
  refine SXL.box rfl rfl ?_; intro b0
  refine SXL.assign rfl ?_
  refine SXL.nil ?_
  refine thenQ.normal ?_
  refine SX.seq ?_
  refine SX.region ?_
  refine SXL.fieldAddr fp_27_5 rfl ?_
  refine SXL.load1o 0 sh_24 rfl rfl rfl ?_
  refine SXL.len is_24 rfl ?_
  refine SXL.gtr rfl rfl ?_
  refine SXL.move rfl ?_
  apply SXL.orG 4
  case hl => exact rfl
  case hd => exact rfl
  case hg => exact rfl
  case ht =>
    intro g1
    refine SXL.pass rfl rfl rfl ?_
    refine SXL.pass rfl rfl rfl ?_
    refine SXL.pass rfl rfl rfl ?_
    refine SXL.pass rfl rfl rfl ?_
    exact SXL.nil (segQ.mk (.skip rfl (.skip rfl (.skip rfl (.skip rfl (.skip rfl (EnvSub.refl _)))))) rfl rfl rfl)
  case hf =>
    intro g1
    refine SXL.fieldAddr fp_27_6 rfl ?_
    refine SXL.load1o 0 sh_25 rfl rfl rfl ?_
    refine SXL.len is_25 rfl ?_
    refine SXL.gtr rfl rfl ?_
    exact SXL.nil (segQ.mk (.skip rfl (.skip rfl (.skip rfl (.skip rfl (.skip rfl (EnvSub.refl _)))))) rfl rfl ⟨rfl, rfl⟩)
  refine SXL.assign rfl ?_
  refine SXL.nil ?_
  refine thenQ.normal ?_
  refine SX.ret ?_
  refine retQ.one (ResAt.tmp rfl) ?_
  first | rfl | assumption
theorem sameInts_any (l m : List Int) (lo mo : Option Addr) (lc mc : Nat) (hmx : l.length ≤ 1000000) (w : World) (h1 : RowsAt w lo 1 (ones l)) (h2 : RowsAt w mo 1 (ones m)) :
    CallsR Tryd.prog 28 [.slice lo l.length lc, .slice mo m.length mc] w (fun v _ => v = .bool (decide (l = m))) := by
  refine CallsR.of_SX (n := 26) (rs := [.tmp 4]) Tryd.func28 rfl rfl rfl rfl ?_
  show SX _ _ _ ⟨[(0, .slice lo l.length lc), (1, .slice mo m.length mc)], [], []⟩
  refine SX.seq ?_
  refine SX.region ?_
  refine SXL.assign rfl ?_
  refine SXL.nil ?_
  refine thenQ.normal ?_
  refine SX.seq ?_
  refine SX.seq ?_
  refine SX.region ?_
  refine SXL.move rfl ?_
  refine SXL.len is_35 rfl ?_
  refine SXL.move rfl ?_
  refine SXL.len is_35 rfl ?_
  refine SXL.neqI rfl rfl ?_
  refine SXL.nil ?_
  refine thenQ.normal ?_
  refine SX.condP rfl (fun c10 => ?_) (fun c10 => ?_)
  · refine SX.seq ?_
    refine SX.region ?_
    refine SXL.assign rfl ?_
    refine SXL.nil ?_
    refine thenQ.normal ?_
    refine SX.ret ?_
    refine thenQ.ret ?_
    refine retQ.one (ResAt.tmp rfl) ?_
    exact congrArg Value.bool (decide_eq_false (by intro h; subst h; omega)).symm
  · refine SX.skip ?_
    refine thenQ.normal ?_
    refine SX.seq ?_
    refine SX.seq ?_
    refine SX.region ?_
    refine SXL.assign rfl ?_
    refine SXL.nil ?_
    refine thenQ.normal ?_
    refine SX.block ?_
    refine SX.loopG (α := Nat) [0, 1, 4] rfl (fun k => [(5, .int .i64 ((k : Int)))]) (fun k => []) (fun k => k ≤ l.length ∧ ∀ i, i < k → l.getD i 0 = m.getD i 0) (fun k => l.length - k) 0 ⟨Nat.zero_le _, fun _ h => absurd h (Nat.not_lt_zero _)⟩ ⟨rfl, trivial⟩ rfl ?_
    rintro k ⟨hk, hall⟩
    refine SX.seq ?_
    refine SX.seq ?_
    refine SX.region ?_
    refine SXL.move rfl ?_
    refine SXL.move rfl ?_
    refine SXL.len is_35 rfl ?_
    refine SXL.lss rfl rfl ?_
    refine SXL.nil ?_
    refine thenQ.normal ?_
    refine SX.condP rfl (fun c14 => ?_) (fun c14 => ?_)
    · refine SX.skip ?_
      refine thenQ.normal ?_
      refine SX.seq ?_
      refine SX.block ?_
      refine SX.seq ?_
      obtain ⟨b, o, ha, hm⟩ := oneI h1 (i := k) (by omega)
      obtain ⟨b2, o2, ha2, hm2⟩ := oneI h2 (i := k) (by omega)
      refine SX.draw 9 (by kernel_rfl) (by kernel_rfl) {} ?_
      refine SXA.take 0 9 rfl (by kernel_rfl) rfl ?_
      refine SXL.move rfl ?_
      refine SXL.move rfl ?_
      refine SXL.indexR el_35 rfl rfl ha (by omega) ?_
      refine SXL.load1 sh_3 rfl (hm _) ?_
      refine SXL.move rfl ?_
      refine SXL.move rfl ?_
      refine SXL.indexR el_35 rfl rfl ha2 (by omega) ?_
      refine SXL.load1 sh_3 rfl (hm2 _) ?_
      refine SXL.neqI rfl rfl ?_
      refine SXL.nil ⟨rfl, rfl, rfl, ?_⟩
      refine SXA.done (by kernel_rfl) ?_
      refine SXL.nil ?_
      refine thenQ.normal ?_
      refine SX.condP rfl (fun c25 => ?_) (fun c25 => ?_)
      · refine SX.seq ?_
        refine SX.region ?_
        refine SXL.assign rfl ?_
        refine SXL.nil ?_
        refine thenQ.normal ?_
        refine SX.ret ?_
        refine blockQ.ret ?_
        refine thenQ.ret ?_
        refine thenQ.ret ?_
        refine blockQ.ret ?_
        refine thenQ.ret ?_
        refine retQ.one (ResAt.tmp rfl) ?_
        exact congrArg Value.bool (decide_eq_false (by intro h; subst h; exact c25 rfl)).symm
      · refine SX.skip ?_
        refine blockQ.normal ?_
        refine thenQ.normal ?_
        refine SX.region ?_
        refine SXL.move rfl ?_
        refine SXL.add rfl rfl (by omega) ?_
        refine SXL.assign rfl ?_
        refine SXL.nil ?_
        refine thenQ.normal ?_
        refine ⟨k + 1, Meets.mk _ ⟨rfl, trivial⟩ ⟨rfl, rfl, rfl, trivial⟩ rfl, ?_, (by omega)⟩
        refine ⟨by omega, fun i hi => ?_⟩
        by_cases e : i = k
        · subst e; exact Decidable.not_not.1 c25
        · exact hall i (by omega)
    · refine SX.exit ?_
      refine thenQ.exit ?_
      refine thenQ.exit ?_
      refine blockQ.exit ?_
      refine thenQ.normal ?_
      refine SX.seq ?_
      refine SX.region ?_
      refine SXL.assign rfl ?_
      refine SXL.nil ?_
      refine thenQ.normal ?_
      refine SX.ret ?_
      refine retQ.one (ResAt.tmp rfl) ?_
      exact congrArg Value.bool (decide_eq_true (List.ext_getElem (by omega) (fun i h3 h4 => by have := hall i (by omega); simpa [h3, h4] using this))).symm
theorem same_any (x y : Sp) (xb xr yb yr : Option Addr) (xbc xrc ybc yrc : Nat) (hm1 : x.book.length ≤ 1000000) (hm2 : x.reads.length ≤ 1000000) (w : World) (hx : SpAt w x xb xr) (hy : SpAt w y yb yr) :
    CallsR Tryd.prog 29 [.agg ⟨[.int .i64 x.weeks, .int .i64 x.most, .int .i64 x.fall, .int .i64 x.a0, .int .i64 x.a1, .int .i64 x.w0, .int .i64 x.w1, (.slice xb x.book.length xbc), (.slice xr x.reads.length xrc)]⟩, .agg ⟨[.int .i64 y.weeks, .int .i64 y.most, .int .i64 y.fall, .int .i64 y.a0, .int .i64 y.a1, .int .i64 y.w0, .int .i64 y.w1, (.slice yb y.book.length ybc), (.slice yr y.reads.length yrc)]⟩] w (fun v _ => v = .bool (decide (x = y))) := by
  refine CallsR.of_SX (n := 94) (rs := [.tmp 4]) Tryd.func29 rfl rfl rfl rfl ?_
  show SX _ _ _ ⟨[(0, .agg ⟨[.int .i64 x.weeks, .int .i64 x.most, .int .i64 x.fall, .int .i64 x.a0, .int .i64 x.a1, .int .i64 x.w0, .int .i64 x.w1, (.slice xb x.book.length xbc), (.slice xr x.reads.length xrc)]⟩), (1, .agg ⟨[.int .i64 y.weeks, .int .i64 y.most, .int .i64 y.fall, .int .i64 y.a0, .int .i64 y.a1, .int .i64 y.w0, .int .i64 y.w1, (.slice yb y.book.length ybc), (.slice yr y.reads.length yrc)]⟩)], [], []⟩
  refine SX.seq ?_
  refine SX.region ?_
  refine SXL.box rfl rfl ?_; intro b0
  refine SXL.box rfl rfl ?_; intro b1
  refine SXL.assign rfl ?_
  refine SXL.nil ?_
  refine thenQ.normal ?_
  refine SX.seq ?_
  refine SX.seq ?_
  refine SX.region ?_
  refine SXL.fieldAddr fp_27_0 rfl ?_
  refine SXL.load1o 0 sh_3 rfl rfl rfl ?_
  refine SXL.fieldAddr fp_27_0 rfl ?_
  refine SXL.load1o 1 sh_3 rfl rfl rfl ?_
  refine SXL.neqI rfl rfl ?_
  refine SXL.move rfl ?_
  apply SXL.orG 5
  case hl => exact rfl
  case hd => exact rfl
  case hg => exact rfl
  case ht =>
    intro g1
    refine SXL.pass rfl rfl rfl ?_
    refine SXL.pass rfl rfl rfl ?_
    refine SXL.pass rfl rfl rfl ?_
    refine SXL.pass rfl rfl rfl ?_
    refine SXL.pass rfl rfl rfl ?_
    exact SXL.nil (segQ.mk (.skip rfl (.skip rfl (.skip rfl (.skip rfl (.skip rfl (.skip rfl (EnvSub.refl _))))))) rfl rfl rfl)
  case hf =>
    intro g1
    refine SXL.fieldAddr fp_27_1 rfl ?_
    refine SXL.load1o 0 sh_3 rfl rfl rfl ?_
    refine SXL.fieldAddr fp_27_1 rfl ?_
    refine SXL.load1o 1 sh_3 rfl rfl rfl ?_
    refine SXL.neqI rfl rfl ?_
    exact SXL.nil (segQ.mk (.skip rfl (.skip rfl (.skip rfl (.skip rfl (.skip rfl (.skip rfl (EnvSub.refl _))))))) rfl rfl ⟨rfl, rfl⟩)
  refine SXL.move rfl ?_
  apply SXL.orG 5
  case hl => exact rfl
  case hd => exact rfl
  case hg => exact rfl
  case ht =>
    intro g2
    refine SXL.pass rfl rfl rfl ?_
    refine SXL.pass rfl rfl rfl ?_
    refine SXL.pass rfl rfl rfl ?_
    refine SXL.pass rfl rfl rfl ?_
    refine SXL.pass rfl rfl rfl ?_
    exact SXL.nil (segQ.mk (.skip rfl (.skip rfl (.skip rfl (.skip rfl (.skip rfl (.skip rfl (EnvSub.refl _))))))) rfl rfl rfl)
  case hf =>
    intro g2
    refine SXL.fieldAddr fp_27_2 rfl ?_
    refine SXL.load1o 0 sh_3 rfl rfl rfl ?_
    refine SXL.fieldAddr fp_27_2 rfl ?_
    refine SXL.load1o 1 sh_3 rfl rfl rfl ?_
    refine SXL.neqI rfl rfl ?_
    exact SXL.nil (segQ.mk (.skip rfl (.skip rfl (.skip rfl (.skip rfl (.skip rfl (.skip rfl (EnvSub.refl _))))))) rfl rfl ⟨rfl, rfl⟩)
  refine SXL.move rfl ?_
  apply SXL.orG 5
  case hl => exact rfl
  case hd => exact rfl
  case hg => exact rfl
  case ht =>
    intro g3
    refine SXL.pass rfl rfl rfl ?_
    refine SXL.pass rfl rfl rfl ?_
    refine SXL.pass rfl rfl rfl ?_
    refine SXL.pass rfl rfl rfl ?_
    refine SXL.pass rfl rfl rfl ?_
    exact SXL.nil (segQ.mk (.skip rfl (.skip rfl (.skip rfl (.skip rfl (.skip rfl (.skip rfl (EnvSub.refl _))))))) rfl rfl rfl)
  case hf =>
    intro g3
    refine SXL.fieldAddr fp_27_3 rfl ?_
    refine SXL.loadNo 0 sh_23 rfl rfl rfl ?_
    refine SXL.fieldAddr fp_27_3 rfl ?_
    refine SXL.loadNo 1 sh_23 rfl rfl rfl ?_
    refine SXL.neqV (p := [x.a0, x.a1] ≠ [y.a0, y.a1]) (u := .agg ⟨ints ([x.a0, x.a1])⟩) (v := .agg ⟨ints ([y.a0, y.a1])⟩) rfl rfl (run_neq_ints eq_23 eg_23 sh_23 rfl rfl) ?_
    exact SXL.nil (segQ.mk (.skip rfl (.skip rfl (.skip rfl (.skip rfl (.skip rfl (.skip rfl (EnvSub.refl _))))))) rfl rfl ⟨rfl, rfl⟩)
  refine SXL.move rfl ?_
  apply SXL.orG 5
  case hl => exact rfl
  case hd => exact rfl
  case hg => exact rfl
  case ht =>
    intro g4
    refine SXL.pass rfl rfl rfl ?_
    refine SXL.pass rfl rfl rfl ?_
    refine SXL.pass rfl rfl rfl ?_
    refine SXL.pass rfl rfl rfl ?_
    refine SXL.pass rfl rfl rfl ?_
    exact SXL.nil (segQ.mk (.skip rfl (.skip rfl (.skip rfl (.skip rfl (.skip rfl (.skip rfl (EnvSub.refl _))))))) rfl rfl rfl)
  case hf =>
    intro g4
    refine SXL.fieldAddr fp_27_4 rfl ?_
    refine SXL.loadNo 0 sh_23 rfl rfl rfl ?_
    refine SXL.fieldAddr fp_27_4 rfl ?_
    refine SXL.loadNo 1 sh_23 rfl rfl rfl ?_
    refine SXL.neqV (p := [x.w0, x.w1] ≠ [y.w0, y.w1]) (u := .agg ⟨ints ([x.w0, x.w1])⟩) (v := .agg ⟨ints ([y.w0, y.w1])⟩) rfl rfl (run_neq_ints eq_23 eg_23 sh_23 rfl rfl) ?_
    exact SXL.nil (segQ.mk (.skip rfl (.skip rfl (.skip rfl (.skip rfl (.skip rfl (.skip rfl (EnvSub.refl _))))))) rfl rfl ⟨rfl, rfl⟩)
  refine SXL.move rfl ?_
  apply SXL.orG 7
  case hl => exact rfl
  case hd => exact rfl
  case hg => exact rfl
  case ht =>
    intro g5
    refine SXL.pass rfl rfl rfl ?_
    refine SXL.pass rfl rfl rfl ?_
    refine SXL.pass rfl rfl rfl ?_
    refine SXL.pass rfl rfl rfl ?_
    refine SXL.pass rfl rfl rfl ?_
    refine SXL.pass rfl rfl rfl ?_
    refine SXL.pass rfl rfl rfl ?_
    exact SXL.nil (segQ.mk (.skip rfl (.skip rfl (.skip rfl (.skip rfl (.skip rfl (.skip rfl (.skip rfl (.skip rfl (EnvSub.refl _))))))))) rfl rfl rfl)
  case hf =>
    intro g5
    refine SXL.fieldAddr fp_27_5 rfl ?_
    refine SXL.load1o 0 sh_24 rfl rfl rfl ?_
    refine SXL.len is_24 rfl ?_
    refine SXL.fieldAddr fp_27_5 rfl ?_
    refine SXL.load1o 1 sh_24 rfl rfl rfl ?_
    refine SXL.len is_24 rfl ?_
    refine SXL.neqI rfl rfl ?_
    exact SXL.nil (segQ.mk (.skip rfl (.skip rfl (.skip rfl (.skip rfl (.skip rfl (.skip rfl (.skip rfl (.skip rfl (EnvSub.refl _))))))))) rfl rfl ⟨rfl, rfl⟩)
  refine SXL.move rfl ?_
  apply SXL.orG 7
  case hl => exact rfl
  case hd => exact rfl
  case hg => exact rfl
  case ht =>
    intro c57
    refine SXL.pass rfl rfl rfl ?_
    refine SXL.pass rfl rfl rfl ?_
    refine SXL.pass rfl rfl rfl ?_
    refine SXL.pass rfl rfl rfl ?_
    refine SXL.pass rfl rfl rfl ?_
    refine SXL.pass rfl rfl rfl ?_
    refine SXL.pass rfl rfl rfl ?_
    exact SXL.nil (segQ.mk (.skip rfl (.skip rfl (.skip rfl (.skip rfl (.skip rfl (.skip rfl (.skip rfl (.skip rfl (EnvSub.refl _))))))))) rfl rfl rfl)
  case hf =>
    intro c57
    refine SXL.fieldAddr fp_27_6 rfl ?_
    refine SXL.load1o 0 sh_25 rfl rfl rfl ?_
    refine SXL.len is_25 rfl ?_
    refine SXL.fieldAddr fp_27_6 rfl ?_
    refine SXL.load1o 1 sh_25 rfl rfl rfl ?_
    refine SXL.len is_25 rfl ?_
    refine SXL.neqI rfl rfl ?_
    exact SXL.nil (segQ.mk (.skip rfl (.skip rfl (.skip rfl (.skip rfl (.skip rfl (.skip rfl (.skip rfl (.skip rfl (EnvSub.refl _))))))))) rfl rfl ⟨rfl, rfl⟩)
  refine SXL.nil ?_
  refine thenQ.normal ?_
  refine SX.condP rfl (fun c57 => ?_) (fun c57 => ?_)
  · refine SX.seq ?_
    refine SX.region ?_
    refine SXL.assign rfl ?_
    refine SXL.nil ?_
    refine thenQ.normal ?_
    refine SX.ret ?_
    refine thenQ.ret ?_
    refine retQ.one (ResAt.tmp rfl) ?_
    exact congrArg Value.bool (decide_eq_false (by intro h; subst h; simp at c57)).symm
  · refine SX.skip ?_
    refine thenQ.normal ?_
    refine SX.seq ?_
    refine SX.seq ?_
    refine SX.region ?_
    refine SXL.assign rfl ?_
    refine SXL.nil ?_
    refine thenQ.normal ?_
    refine SX.block ?_
    refine SX.loopG (α := Nat) [2, 3, 4] rfl (fun k => [(5, .int .i64 ((k : Int)))]) (fun k => []) (fun k => k ≤ x.book.length ∧ ∀ i, i < k → x.book.getD i default = y.book.getD i default) (fun k => x.book.length - k) 0 ⟨Nat.zero_le _, fun _ h => absurd h (Nat.not_lt_zero _)⟩ ⟨rfl, trivial⟩ rfl ?_
    rintro k ⟨hk, hall⟩
    refine SX.seq ?_
    refine SX.seq ?_
    refine SX.region ?_
    refine SXL.move rfl ?_
    refine SXL.fieldAddr fp_27_5 rfl ?_
    refine SXL.load1o 0 sh_24 rfl rfl rfl ?_
    refine SXL.len is_24 rfl ?_
    refine SXL.lss rfl rfl ?_
    refine SXL.nil ?_
    refine thenQ.normal ?_
    refine SX.condP rfl (fun c62 => ?_) (fun c62 => ?_)
    · refine SX.skip ?_
      refine thenQ.normal ?_
      refine SX.seq ?_
      refine SX.block ?_
      refine SX.seq ?_
      obtain ⟨b, o, ha, hm⟩ := hx.lineD (i := k) (by omega)
      obtain ⟨b2, o2, ha2, hn⟩ := hy.lineD (i := k) (by omega)
      refine SX.draw 11 (by kernel_rfl) (by kernel_rfl) {} ?_
      refine SXA.take 0 11 rfl (by kernel_rfl) rfl ?_
      refine SXL.fieldAddr fp_27_5 rfl ?_
      refine SXL.load1o 0 sh_24 rfl rfl rfl ?_
      refine SXL.move rfl ?_
      refine SXL.indexR el_24 rfl rfl ha (by omega) ?_
      refine SXL.loadN sh_61 rfl (hm _) rfl ?_
      refine SXL.fieldAddr fp_27_5 rfl ?_
      refine SXL.load1o 1 sh_24 rfl rfl rfl ?_
      refine SXL.move rfl ?_
      refine SXL.indexR el_24 rfl rfl ha2 (by omega) ?_
      refine SXL.loadN sh_61 rfl (hn _) rfl ?_
      refine SXL.neqV (p := (x.book.getD k default).ints ≠ (y.book.getD k default).ints) (u := .agg ⟨ints ((x.book.getD k default).ints)⟩) (v := .agg ⟨ints ((y.book.getD k default).ints)⟩) rfl rfl (run_neq_ints eq_61 eg_61 sh_61 rfl rfl) ?_
      refine SXL.nil ⟨rfl, rfl, rfl, ?_⟩
      refine SXA.done (by kernel_rfl) ?_
      refine SXL.nil ?_
      refine thenQ.normal ?_
      refine SX.condP rfl (fun c75 => ?_) (fun c75 => ?_)
      · refine SX.seq ?_
        refine SX.region ?_
        refine SXL.assign rfl ?_
        refine SXL.nil ?_
        refine thenQ.normal ?_
        refine SX.ret ?_
        refine blockQ.ret ?_
        refine thenQ.ret ?_
        refine thenQ.ret ?_
        refine blockQ.ret ?_
        refine thenQ.ret ?_
        refine retQ.one (ResAt.tmp rfl) ?_
        exact congrArg Value.bool (decide_eq_false (by intro h; subst h; exact c75 rfl)).symm
      · refine SX.skip ?_
        refine blockQ.normal ?_
        refine thenQ.normal ?_
        refine SX.region ?_
        refine SXL.move rfl ?_
        refine SXL.add rfl rfl (by omega) ?_
        refine SXL.assign rfl ?_
        refine SXL.nil ?_
        refine thenQ.normal ?_
        refine ⟨k + 1, Meets.mk _ ⟨rfl, trivial⟩ ⟨rfl, rfl, rfl, trivial⟩ rfl, ?_, (by omega)⟩
        refine ⟨by omega, fun i hi => ?_⟩
        by_cases e : i = k
        · subst e; exact Ln.ints_inj.1 (Decidable.not_not.1 c75)
        · exact hall i (by omega)
    · refine SX.exit ?_
      refine thenQ.exit ?_
      refine thenQ.exit ?_
      refine blockQ.exit ?_
      refine thenQ.normal ?_
      refine SX.seq ?_
      refine SX.seq ?_
      refine SX.region ?_
      refine SXL.assign rfl ?_
      refine SXL.nil ?_
      refine thenQ.normal ?_
      refine SX.block ?_
      refine SX.loopG (α := Nat) [2, 3, 4] rfl (fun k => [(6, .int .i64 ((k : Int)))]) (fun k => []) (fun k => k ≤ x.reads.length ∧ ∀ i, i < k → x.reads.getD i default = y.reads.getD i default) (fun k => x.reads.length - k) 0 ⟨Nat.zero_le _, fun _ h => absurd h (Nat.not_lt_zero _)⟩ ⟨rfl, trivial⟩ rfl ?_
      rintro k ⟨hk2, hall2⟩
      refine SX.seq ?_
      refine SX.seq ?_
      refine SX.region ?_
      refine SXL.move rfl ?_
      refine SXL.fieldAddr fp_27_6 rfl ?_
      refine SXL.load1o 0 sh_25 rfl rfl rfl ?_
      refine SXL.len is_25 rfl ?_
      refine SXL.lss rfl rfl ?_
      refine SXL.nil ?_
      refine thenQ.normal ?_
      refine SX.condP rfl (fun c80 => ?_) (fun c80 => ?_)
      · refine SX.skip ?_
        refine thenQ.normal ?_
        refine SX.seq ?_
        refine SX.block ?_
        refine SX.seq ?_
        obtain ⟨b, o, ha, hm⟩ := hx.readD (i := k) (by omega)
        obtain ⟨b2, o2, ha2, hn⟩ := hy.readD (i := k) (by omega)
        refine SX.draw 11 (by kernel_rfl) (by kernel_rfl) {} ?_
        refine SXA.take 0 11 rfl (by kernel_rfl) rfl ?_
        refine SXL.fieldAddr fp_27_6 rfl ?_
        refine SXL.load1o 0 sh_25 rfl rfl rfl ?_
        refine SXL.move rfl ?_
        refine SXL.indexR el_25 rfl rfl ha (by omega) ?_
        refine SXL.loadN sh_54 rfl (hm _) rfl ?_
        refine SXL.fieldAddr fp_27_6 rfl ?_
        refine SXL.load1o 1 sh_25 rfl rfl rfl ?_
        refine SXL.move rfl ?_
        refine SXL.indexR el_25 rfl rfl ha2 (by omega) ?_
        refine SXL.loadN sh_54 rfl (hn _) rfl ?_
        refine SXL.neqV (p := (x.reads.getD k default).ints ≠ (y.reads.getD k default).ints) (u := .agg ⟨ints ((x.reads.getD k default).ints)⟩) (v := .agg ⟨ints ((y.reads.getD k default).ints)⟩) rfl rfl (run_neq_ints eq_54 eg_54 sh_54 rfl rfl) ?_
        refine SXL.nil ⟨rfl, rfl, rfl, ?_⟩
        refine SXA.done (by kernel_rfl) ?_
        refine SXL.nil ?_
        refine thenQ.normal ?_
        refine SX.condP rfl (fun c93 => ?_) (fun c93 => ?_)
        · refine SX.seq ?_
          refine SX.region ?_
          refine SXL.assign rfl ?_
          refine SXL.nil ?_
          refine thenQ.normal ?_
          refine SX.ret ?_
          refine blockQ.ret ?_
          refine thenQ.ret ?_
          refine thenQ.ret ?_
          refine blockQ.ret ?_
          refine thenQ.ret ?_
          refine retQ.one (ResAt.tmp rfl) ?_
          exact congrArg Value.bool (decide_eq_false (by intro h; subst h; exact c93 rfl)).symm
        · refine SX.skip ?_
          refine blockQ.normal ?_
          refine thenQ.normal ?_
          refine SX.region ?_
          refine SXL.move rfl ?_
          refine SXL.add rfl rfl (by omega) ?_
          refine SXL.assign rfl ?_
          refine SXL.nil ?_
          refine thenQ.normal ?_
          refine ⟨k + 1, Meets.mk _ ⟨rfl, trivial⟩ ⟨rfl, rfl, rfl, trivial⟩ rfl, ?_, (by omega)⟩
          refine ⟨by omega, fun i hi => ?_⟩
          by_cases e : i = k
          · subst e; exact Rd.ints_inj.1 (Decidable.not_not.1 c93)
          · exact hall2 i (by omega)
      · refine SX.exit ?_
        refine thenQ.exit ?_
        refine thenQ.exit ?_
        refine blockQ.exit ?_
        refine thenQ.normal ?_
        refine SX.seq ?_
        refine SX.region ?_
        refine SXL.assign rfl ?_
        refine SXL.nil ?_
        refine thenQ.normal ?_
        refine SX.ret ?_
        refine retQ.one (ResAt.tmp rfl) ?_
        exact congrArg Value.bool (decide_eq_true (sp_ext (by simp at c57; omega) (fun i hi => hall i (by omega)) (fun i hi => hall2 i (by omega)))).symm
theorem twin_any (s : Sp) (bo ro : Option Addr) (bc rc : Nat) (hm1 : s.book.length ≤ 1000000) (hm2 : s.reads.length ≤ 1000000) (w : World) (hs : SpAt w s bo ro) :
    CallsR Tryd.prog 17 [.agg ⟨[.int .i64 s.weeks, .int .i64 s.most, .int .i64 s.fall, .int .i64 s.a0, .int .i64 s.a1, .int .i64 s.w0, .int .i64 s.w1, (.slice bo s.book.length bc), (.slice ro s.reads.length rc)]⟩] w (SpR s) := by
  refine CallsR.of_SX (n := 14) (rs := [.cell 2 27]) Tryd.func17 rfl rfl rfl rfl ?_
  show SX _ _ _ ⟨[(0, .agg ⟨[.int .i64 s.weeks, .int .i64 s.most, .int .i64 s.fall, .int .i64 s.a0, .int .i64 s.a1, .int .i64 s.w0, .int .i64 s.w1, (.slice bo s.book.length bc), (.slice ro s.reads.length rc)]⟩)], [], []⟩
  refine SX.seq ?_
  refine SX.region ?_
  refine SXL.box rfl rfl ?_; intro b0
  refine SXL.alloc zp_27 ?_; intro b1
  refine SXL.nil ?_
  refine thenQ.normal ?_
  refine SX.seq ?_
  refine SX.draw 9 (by kernel_rfl) (by kernel_rfl) {} ?_
  refine SXA.take 1 2 rfl (by kernel_rfl) rfl ?_
  refine SXL.fieldAddr fp_27_5 rfl ?_
  refine SXL.load1o 0 sh_24 rfl rfl rfl ?_
  refine SXL.nil ⟨rfl, rfl, rfl, ?_⟩
  refine SXA.take 5 2 rfl (by kernel_rfl) rfl ?_
  refine SXL.fieldAddr fp_27_6 rfl ?_
  refine SXL.load1o 0 sh_25 rfl rfl rfl ?_
  refine SXL.nil ⟨rfl, rfl, rfl, ?_⟩
  refine SXA.all [0, 4] (by kernel_rfl) rfl ⟨⟨?_, rfl⟩, ⟨?_, rfl⟩, trivial⟩
  · refine (show SXL _ _ [_] _ _ from ?_)
    refine SXL.buildSlice0 et_24 ?_; intro b2
    refine SXL.nil (stepQ.mk _ rfl rfl ?_)
    refine SXA.all [3, 4] (by kernel_rfl) rfl ⟨⟨?_, rfl⟩, ⟨?_, rfl⟩, trivial⟩
    · refine (show SXL _ _ [_] _ _ from ?_)
      refine SXL.appendE (some b2) ap_24 rfl rfl (hs.bookSrc _) (bookC_len _) (bookC_one _) ⟨by simp only [maxLen]; omega, by omega⟩ ?_; intro r_6 o_6
      refine SXL.nil (stepQ.mk _ rfl rfl ?_)
      refine SXA.take 8 1 rfl (by kernel_rfl) rfl ?_
      refine SXL.fieldAddr fp_27_5 rfl ?_
      refine SXL.nil ⟨rfl, rfl, rfl, ?_⟩
      refine SXA.all [4] (by kernel_rfl) rfl ⟨⟨?_, rfl⟩, trivial⟩
      refine (show SXL _ _ [_] _ _ from ?_)
      refine SXL.buildSlice0 et_25 ?_; intro b4
      refine SXL.nil (stepQ.mk _ rfl rfl ?_)
      refine SXA.all [7] (by kernel_rfl) rfl ⟨⟨?_, rfl⟩, trivial⟩
      refine (show SXL _ _ [_] _ _ from ?_)
      refine SXL.appendE (some b4) ap_25 rfl rfl (hs.readsSrc _) (readsC_len _) (readsC_one _) ⟨by simp only [maxLen]; omega, by omega⟩ ?_; intro r_10 o_10
      refine SXL.nil (stepQ.mk _ rfl rfl ?_)
      refine SXA.done (by kernel_rfl) ?_
      refine SXL.store 0 sz_24 rfl rfl rfl rfl rfl rfl ?_
      refine SXL.fieldAddr fp_27_6 rfl ?_
      refine SXL.store 0 sz_25 rfl rfl rfl rfl rfl rfl ?_
      refine SXL.nil ?_
      refine thenQ.normal ?_
      refine SX.seq ?_
      refine SX.region ?_
      refine SXL.loadNo 0 sh_27 rfl rfl rfl ?_
      refine SXL.store 1 sz_27 rfl rfl rfl rfl rfl rfl ?_
      refine SXL.nil ?_
      refine thenQ.normal ?_
      refine SX.ret ?_
      refine retQ.sel [3, 5] rfl rfl ?_
      refine retQ.one (ResAt.cellNo 1 sh_27 rfl rfl rfl) ?_
      exact ⟨r_6, r_10, o_6, o_10, rfl, rfl⟩
    · refine (show SXL _ _ [_] _ _ from ?_)
      refine SXL.buildSlice0 et_25 ?_; intro b3
      refine SXL.nil (stepQ.mk _ rfl rfl ?_)
      refine SXA.all [3] (by kernel_rfl) rfl ⟨⟨?_, rfl⟩, trivial⟩
      refine (show SXL _ _ [_] _ _ from ?_)
      refine SXL.appendE (some b2) ap_24 rfl rfl (hs.bookSrc _) (bookC_len _) (bookC_one _) ⟨by simp only [maxLen]; omega, by omega⟩ ?_; intro r_6 o_6
      refine SXL.nil (stepQ.mk _ rfl rfl ?_)
      refine SXA.take 8 1 rfl (by kernel_rfl) rfl ?_
      refine SXL.fieldAddr fp_27_5 rfl ?_
      refine SXL.nil ⟨rfl, rfl, rfl, ?_⟩
      refine SXA.all [7] (by kernel_rfl) rfl ⟨⟨?_, rfl⟩, trivial⟩
      refine (show SXL _ _ [_] _ _ from ?_)
      refine SXL.appendE (some b3) ap_25 rfl rfl (hs.readsSrc _) (readsC_len _) (readsC_one _) ⟨by simp only [maxLen]; omega, by omega⟩ ?_; intro r_10 o_10
      refine SXL.nil (stepQ.mk _ rfl rfl ?_)
      refine SXA.done (by kernel_rfl) ?_
      refine SXL.store 0 sz_24 rfl rfl rfl rfl rfl rfl ?_
      refine SXL.fieldAddr fp_27_6 rfl ?_
      refine SXL.store 0 sz_25 rfl rfl rfl rfl rfl rfl ?_
      refine SXL.nil ?_
      refine thenQ.normal ?_
      refine SX.seq ?_
      refine SX.region ?_
      refine SXL.loadNo 0 sh_27 rfl rfl rfl ?_
      refine SXL.store 1 sz_27 rfl rfl rfl rfl rfl rfl ?_
      refine SXL.nil ?_
      refine thenQ.normal ?_
      refine SX.ret ?_
      refine retQ.sel [4, 5] rfl rfl ?_
      refine retQ.one (ResAt.cellNo 1 sh_27 rfl rfl rfl) ?_
      exact ⟨r_6, r_10, o_6, o_10, rfl, rfl⟩
  · refine (show SXL _ _ [_] _ _ from ?_)
    refine SXL.buildSlice0 et_25 ?_; intro b2
    refine SXL.nil (stepQ.mk _ rfl rfl ?_)
    refine SXA.all [0] (by kernel_rfl) rfl ⟨⟨?_, rfl⟩, trivial⟩
    refine (show SXL _ _ [_] _ _ from ?_)
    refine SXL.buildSlice0 et_24 ?_; intro b3
    refine SXL.nil (stepQ.mk _ rfl rfl ?_)
    refine SXA.all [3] (by kernel_rfl) rfl ⟨⟨?_, rfl⟩, trivial⟩
    refine (show SXL _ _ [_] _ _ from ?_)
    refine SXL.appendE (some b3) ap_24 rfl rfl (hs.bookSrc _) (bookC_len _) (bookC_one _) ⟨by simp only [maxLen]; omega, by omega⟩ ?_; intro r_6 o_6
    refine SXL.nil (stepQ.mk _ rfl rfl ?_)
    refine SXA.take 8 1 rfl (by kernel_rfl) rfl ?_
    refine SXL.fieldAddr fp_27_5 rfl ?_
    refine SXL.nil ⟨rfl, rfl, rfl, ?_⟩
    refine SXA.all [7] (by kernel_rfl) rfl ⟨⟨?_, rfl⟩, trivial⟩
    refine (show SXL _ _ [_] _ _ from ?_)
    refine SXL.appendE (some b2) ap_25 rfl rfl (hs.readsSrc _) (readsC_len _) (readsC_one _) ⟨by simp only [maxLen]; omega, by omega⟩ ?_; intro r_10 o_10
    refine SXL.nil (stepQ.mk _ rfl rfl ?_)
    refine SXA.done (by kernel_rfl) ?_
    refine SXL.store 0 sz_24 rfl rfl rfl rfl rfl rfl ?_
    refine SXL.fieldAddr fp_27_6 rfl ?_
    refine SXL.store 0 sz_25 rfl rfl rfl rfl rfl rfl ?_
    refine SXL.nil ?_
    refine thenQ.normal ?_
    refine SX.seq ?_
    refine SX.region ?_
    refine SXL.loadNo 0 sh_27 rfl rfl rfl ?_
    refine SXL.store 1 sz_27 rfl rfl rfl rfl rfl rfl ?_
    refine SXL.nil ?_
    refine thenQ.normal ?_
    refine SX.ret ?_
    refine retQ.sel [4, 5] rfl rfl ?_
    refine retQ.one (ResAt.cellNo 1 sh_27 rfl rfl rfl) ?_
    exact ⟨r_6, r_10, o_6, o_10, rfl, rfl⟩
end Go.Proofs.YtknflipongbngaaDoor

/- The calculus' rules: '==' on bools. Nothing of the program stands here. -/
namespace Go.X
open Go Go.RowKit
def isBoolP (P : Program) (t : TypeId) : Bool := match P.underlying t with | some .bool => true | _ => false
theorem run_equal_bool {P : Program} {T : TypeId} {w : World} (h : isBoolP P T = true) (a b : Bool) : (Op.equal T (.bool a) (.bool b)).run P w = .ok (a == b) w := by
  unfold isBoolP at h
  split at h
  · rename_i hu
    show (Op.equalIn (9999 + 1) T (.bool a) (.bool b)).run P w = _
    unfold Op.equalIn
    simp [run_underlying hu, Result.andThen]
  · cases h
section
variable {C : Cx} {Q : Post} {env : Env} {own : Own} {D : List Deferred} {ops : Array Oper} {rest : List Oper}
variable {d : Nat} {ty : TypeId} {pos : String} {aft : Array Edge} {g : Option (Nat × Bool)} {x y : Operand} {T T' : TypeId} {p q : Prop} [Decidable p] [Decidable q]
theorem SXL.eqlB (hT : isBoolP C.P T = true) (hx : ev env x = some (.bool (decide p))) (hy : ev env y = some (.bool (decide q)))
    (h : SXL C ops rest Q ⟨(d, .bool (decide (p ↔ q))) :: env, own, D⟩) (hd : Nat.blt d C.n = true := by rfl) (hw : Wanted ops g env = some true := by rfl) :
    SXL C ops ({ dst := some d, op := .binOp .eql T x y T', type := ty, pos, after := aft, guard := g } :: rest) Q ⟨env, own, D⟩ :=
  SXL.bin hx hy (r := .bool (decide (p ↔ q))) (fun w => by by_cases hp : p <;> by_cases hq : q <;> simp [eqGuard, binOp, hp, hq, run_equal_bool hT, Result.andThen]) hd hw h
theorem SXL.neqB (hT : isBoolP C.P T = true) (hx : ev env x = some (.bool (decide p))) (hy : ev env y = some (.bool (decide q)))
    (h : SXL C ops rest Q ⟨(d, .bool (decide (¬(p ↔ q)))) :: env, own, D⟩) (hd : Nat.blt d C.n = true := by rfl) (hw : Wanted ops g env = some true := by rfl) :
    SXL C ops ({ dst := some d, op := .binOp .neq T x y T', type := ty, pos, after := aft, guard := g } :: rest) Q ⟨env, own, D⟩ :=
  SXL.bin hx hy (r := .bool (decide (¬(p ↔ q)))) (fun w => by by_cases hp : p <;> by_cases hq : q <;> simp [eqGuard, binOp, hp, hq, run_equal_bool hT, Result.andThen]) hd hw h
end
end Go.X

/- The walks of functions. -/
namespace Go.Proofs.YtknflipongbngaaDoor
open Go.X Go.S Go.RowKit
theorem bestL_len (s : Sp) (off i : Nat) : (bestL s off i).length ≤ 20 := by
  unfold bestL
  split
  · rename_i he
    unfold endsL endL
    rw [List.length_take, List.length_drop]
    by_cases hi : i < (toldA s 0).length
    · have := toldA_len 0 _ (getD_mem hi); omega
    · rw [List.getD_eq_getElem?_getD, List.getElem?_eq_none (by omega)]; simp
  · simp
set_option maxHeartbeats 4000000 in
theorem fails_law (s : Sp) (bo ro : Option Addr) (bc rc : Nat) (need week bucket : Int) (w : World) (hg : Gl w) (hs : SpAt w s bo ro) :
    CallsR Tryd.prog 6 [.agg ⟨[.int .i64 s.weeks, .int .i64 s.most, .int .i64 s.fall, .int .i64 s.a0, .int .i64 s.a1, .int .i64 s.w0, .int .i64 s.w1, (.slice bo s.book.length bc), (.slice ro s.reads.length rc)]⟩, .int .i64 need, .int .i64 week, .int .i64 bucket] w (fun v _ => v = .bool true) := by
  refine CallsR.of_SX (n := 194) (rs := [.tmp 8]) Tryd.func6 rfl rfl rfl rfl ?_
  show SX _ _ _ ⟨[(0, .agg ⟨[.int .i64 s.weeks, .int .i64 s.most, .int .i64 s.fall, .int .i64 s.a0, .int .i64 s.a1, .int .i64 s.w0, .int .i64 s.w1, (.slice bo s.book.length bc), (.slice ro s.reads.length rc)]⟩), (1, .int .i64 need), (2, .int .i64 week), (3, .int .i64 bucket)], [], []⟩
  refine SX.seq ?_
  refine SX.region ?_
  refine SXL.box rfl rfl ?_; intro b0
  refine SXL.assign rfl ?_
  refine SXL.nil ?_
  refine thenQ.normal ?_
  refine SX.seq ?_
  refine SX.seq ?_
  refine SX.region ?_
  refine SXL.loadNo 0 sh_27 rfl rfl rfl ?_
  refine SXL.call1 (.bool (decide ((30 : Int) < (s.book.length : Int) ∨ (30 : Int) < (s.reads.length : Int)))) fn_16 rfl (fun w hI => great_any s bo ro bc rc _) ?_
  refine SXL.nil ?_
  refine thenQ.normal ?_
  refine SX.condP rfl (fun c41 => ?_) (fun c41 => ?_)
  · refine SX.seq ?_
    refine SX.region ?_
    refine SXL.assign rfl ?_
    refine SXL.nil ?_
    refine thenQ.normal ?_
    refine SX.ret ?_
    refine thenQ.ret ?_
    refine retQ.dead [] rfl ?_
    refine retQ.one (ResAt.tmp rfl) ?_
    first | rfl | simp
  · refine SX.skip ?_
    refine thenQ.normal ?_
    refine SX.seq ?_
    refine SX.region ?_
    refine SXL.loadNo 0 sh_27 rfl rfl rfl ?_
    refine SXL.callF (SpR s) fn_17 rfl (fun w hI => twin_any s bo ro bc rc (by omega) (by omega) w (hs.inv hI)) ?_; rintro _ _ ⟨r1, r2, o1, o2, rfl, rfl⟩
    refine SXL.alloc zp_27 ?_; intro b3
    refine SXL.store 3 sz_27 rfl rfl rfl rfl rfl rfl ?_
    refine SXL.nil ?_
    refine thenQ.normal ?_
    refine SX.seq ?_
    refine SX.region ?_
    refine SXL.loadNo 3 sh_27 rfl rfl rfl ?_
    refine SXL.move rfl ?_
    refine SXL.call1 (.tuple ⟨[.int .i64 (wkV s (loI s need)), .int .i64 (wkE s (loI s need))]⟩) fn_42 rfl (fun w hI => sfails_any s r1.addr r2.addr r1.cap r2.cap need (by omega) (by omega) _ (hg.inv hI) (spAtOwn hI o1 o2 (i := 1) (j := 2) rfl rfl)) ?_
    refine SXL.move rfl ?_
    refine SXL.extract rfl rfl ?_
    refine SXL.extract rfl rfl ?_
    refine SXL.assign rfl ?_
    refine SXL.assign rfl ?_
    refine SXL.nil ?_
    refine thenQ.normal ?_
    refine SX.seq ?_
    refine SX.region ?_
    refine SXL.loadNo 0 sh_27 rfl rfl rfl ?_
    refine SXL.move rfl ?_
    refine SXL.call1 (.tuple ⟨[.int .i64 (wkV s (loI s need)), .int .i64 (wkE s (loI s need))]⟩) fn_43 rfl (fun w hI => rfails_any s bo ro bc rc need _ (hs.inv hI)) ?_
    refine SXL.move rfl ?_
    refine SXL.extract rfl rfl ?_
    refine SXL.extract rfl rfl ?_
    refine SXL.assign rfl ?_
    refine SXL.assign rfl ?_
    refine SXL.nil ?_
    refine thenQ.normal ?_
    refine SX.seq ?_
    refine SX.region ?_
    refine SXL.loadNo 3 sh_27 rfl rfl rfl ?_
    refine SXL.move rfl ?_
    refine SXL.call1 (.tuple ⟨[.int .i64 (wkV s (hiI s need)), .int .i64 (wkE s (hiI s need))]⟩) fn_44 rfl (fun w hI => ssurely_any s r1.addr r2.addr r1.cap r2.cap need (by omega) (by omega) _ (hg.inv hI) (spAtOwn hI o1 o2 (i := 1) (j := 2) rfl rfl)) ?_
    refine SXL.move rfl ?_
    refine SXL.extract rfl rfl ?_
    refine SXL.extract rfl rfl ?_
    refine SXL.assign rfl ?_
    refine SXL.assign rfl ?_
    refine SXL.nil ?_
    refine thenQ.normal ?_
    refine SX.seq ?_
    refine SX.region ?_
    refine SXL.loadNo 0 sh_27 rfl rfl rfl ?_
    refine SXL.move rfl ?_
    refine SXL.call1 (.tuple ⟨[.int .i64 (wkV s (hiI s need)), .int .i64 (wkE s (hiI s need))]⟩) fn_45 rfl (fun w hI => rsurely_any s bo ro bc rc need _ (hs.inv hI)) ?_
    refine SXL.move rfl ?_
    refine SXL.extract rfl rfl ?_
    refine SXL.extract rfl rfl ?_
    refine SXL.assign rfl ?_
    refine SXL.assign rfl ?_
    refine SXL.nil ?_
    refine thenQ.normal ?_
    refine SX.seq ?_
    refine SX.seq ?_
    refine SX.region ?_
    refine SXL.move rfl ?_
    refine SXL.move rfl ?_
    refine SXL.neqI rfl rfl ?_
    refine SXL.move rfl ?_
    apply SXL.orG 3
    case hl => exact rfl
    case hd => exact rfl
    case hg => exact rfl
    case ht =>
      intro g2
      refine SXL.pass rfl rfl rfl ?_
      refine SXL.pass rfl rfl rfl ?_
      refine SXL.pass rfl rfl rfl ?_
      exact SXL.nil (segQ.mk (.skip rfl (.skip rfl (.skip rfl (.skip rfl (EnvSub.refl _))))) rfl rfl rfl)
    case hf =>
      intro g2
      refine SXL.move rfl ?_
      refine SXL.move rfl ?_
      refine SXL.neqI rfl rfl ?_
      exact SXL.nil (segQ.mk (.skip rfl (.skip rfl (.skip rfl (.skip rfl (EnvSub.refl _))))) rfl rfl ⟨rfl, rfl⟩)
    refine SXL.move rfl ?_
    apply SXL.orG 3
    case hl => exact rfl
    case hd => exact rfl
    case hg => exact rfl
    case ht =>
      intro g3
      refine SXL.pass rfl rfl rfl ?_
      refine SXL.pass rfl rfl rfl ?_
      refine SXL.pass rfl rfl rfl ?_
      exact SXL.nil (segQ.mk (.skip rfl (.skip rfl (.skip rfl (.skip rfl (EnvSub.refl _))))) rfl rfl rfl)
    case hf =>
      intro g3
      refine SXL.move rfl ?_
      refine SXL.move rfl ?_
      refine SXL.neqI rfl rfl ?_
      exact SXL.nil (segQ.mk (.skip rfl (.skip rfl (.skip rfl (.skip rfl (EnvSub.refl _))))) rfl rfl ⟨rfl, rfl⟩)
    refine SXL.move rfl ?_
    apply SXL.orG 3
    case hl => exact rfl
    case hd => exact rfl
    case hg => exact rfl
    case ht =>
      intro c85
      refine SXL.pass rfl rfl rfl ?_
      refine SXL.pass rfl rfl rfl ?_
      refine SXL.pass rfl rfl rfl ?_
      exact SXL.nil (segQ.mk (.skip rfl (.skip rfl (.skip rfl (.skip rfl (EnvSub.refl _))))) rfl rfl rfl)
    case hf =>
      intro c85
      refine SXL.move rfl ?_
      refine SXL.move rfl ?_
      refine SXL.neqI rfl rfl ?_
      exact SXL.nil (segQ.mk (.skip rfl (.skip rfl (.skip rfl (.skip rfl (EnvSub.refl _))))) rfl rfl ⟨rfl, rfl⟩)
    refine SXL.nil ?_
    refine thenQ.normal ?_
    refine SX.condP rfl (fun c85 => ?_) (fun c85 => ?_)
    · exfalso; simp at c85
    refine SX.skip ?_
    refine thenQ.normal ?_
    refine SX.seq ?_
    have hl1 := bestL_len s 0 (poorI s)
    have hl2 := bestL_len s 10 (richI s)
    refine SX.region ?_
    refine SXL.loadNo 3 sh_27 rfl rfl rfl ?_
    refine SXL.callF (IsR3 (bestR s (poorI s)) (bestL s 0 (poorI s)) (toldE s 0)) fn_46 rfl (fun w hI => spoor_any s r1.addr r2.addr r1.cap r2.cap (by omega) (by omega) w (hg.inv hI) (spAtOwn hI o1 o2 (i := 1) (j := 2) rfl rfl)) ?_; rintro _ _ ⟨q1, u1, rfl, rfl⟩
    refine SXL.move rfl ?_
    refine SXL.extract rfl rfl ?_
    refine SXL.extract rfl rfl ?_
    refine SXL.extract rfl rfl ?_
    refine SXL.assign rfl ?_
    refine SXL.assign rfl ?_
    refine SXL.assign rfl ?_
    refine SXL.nil ?_
    refine thenQ.normal ?_
    refine SX.seq ?_
    refine SX.region ?_
    refine SXL.loadNo 0 sh_27 rfl rfl rfl ?_
    refine SXL.callF (IsR3 (bestR s (poorI s)) (bestL s 0 (poorI s)) (toldE s 0)) fn_47 rfl (fun w hI => rpoor_any s bo ro bc rc w (hs.inv hI)) ?_; rintro _ _ ⟨q2, u2, rfl, rfl⟩
    refine SXL.move rfl ?_
    refine SXL.extract rfl rfl ?_
    refine SXL.extract rfl rfl ?_
    refine SXL.extract rfl rfl ?_
    refine SXL.assign rfl ?_
    refine SXL.assign rfl ?_
    refine SXL.assign rfl ?_
    refine SXL.nil ?_
    refine thenQ.normal ?_
    refine SX.seq ?_
    refine SX.region ?_
    refine SXL.loadNo 3 sh_27 rfl rfl rfl ?_
    refine SXL.callF (IsR3 (bestR s (richI s)) (bestL s 10 (richI s)) (toldE s 0)) fn_48 rfl (fun w hI => srich_any s r1.addr r2.addr r1.cap r2.cap (by omega) (by omega) w (hg.inv hI) (spAtOwn hI o1 o2 (i := 1) (j := 2) rfl rfl)) ?_; rintro _ _ ⟨q3, u3, rfl, rfl⟩
    refine SXL.move rfl ?_
    refine SXL.extract rfl rfl ?_
    refine SXL.extract rfl rfl ?_
    refine SXL.extract rfl rfl ?_
    refine SXL.assign rfl ?_
    refine SXL.assign rfl ?_
    refine SXL.assign rfl ?_
    refine SXL.nil ?_
    refine thenQ.normal ?_
    refine SX.seq ?_
    refine SX.region ?_
    refine SXL.loadNo 0 sh_27 rfl rfl rfl ?_
    refine SXL.callF (IsR3 (bestR s (richI s)) (bestL s 10 (richI s)) (toldE s 0)) fn_49 rfl (fun w hI => rrich_any s bo ro bc rc w (hs.inv hI)) ?_; rintro _ _ ⟨q4, u4, rfl, rfl⟩
    refine SXL.move rfl ?_
    refine SXL.extract rfl rfl ?_
    refine SXL.extract rfl rfl ?_
    refine SXL.extract rfl rfl ?_
    refine SXL.assign rfl ?_
    refine SXL.assign rfl ?_
    refine SXL.assign rfl ?_
    refine SXL.nil ?_
    refine thenQ.normal ?_
    refine SX.seq ?_
    refine SX.region ?_
    refine SXL.loadNo 3 sh_27 rfl rfl rfl ?_
    refine SXL.move rfl ?_
    refine SXL.move rfl ?_
    refine SXL.call1 (.tuple ⟨[.agg ⟨[.int .i64 ((fillLo s week bucket)), .int .i64 ((fillHi s week bucket))]⟩, .int .i64 (fillE s week bucket)]⟩) fn_50 rfl (fun w hI => sfill_any s r1.addr r2.addr r1.cap r2.cap week bucket (by omega) (by omega) _ (hg.inv hI) (spAtOwn hI o1 o2 (i := 1) (j := 2) rfl rfl)) ?_
    refine SXL.move rfl ?_
    refine SXL.extract rfl rfl ?_
    refine SXL.extract rfl rfl ?_
    refine SXL.alloc zp_23 ?_; intro b8
    refine SXL.store 8 sz_23 rfl rfl rfl rfl rfl rfl ?_
    refine SXL.assign rfl ?_
    refine SXL.nil ?_
    refine thenQ.normal ?_
    refine SX.seq ?_
    refine SX.region ?_
    refine SXL.loadNo 0 sh_27 rfl rfl rfl ?_
    refine SXL.move rfl ?_
    refine SXL.move rfl ?_
    refine SXL.call1 (.tuple ⟨[.agg ⟨[.int .i64 ((fillLo s week bucket)), .int .i64 ((fillHi s week bucket))]⟩, .int .i64 (fillE s week bucket)]⟩) fn_51 rfl (fun w hI => rfill_any s bo ro bc rc week bucket _ (hs.inv hI)) ?_
    refine SXL.move rfl ?_
    refine SXL.extract rfl rfl ?_
    refine SXL.extract rfl rfl ?_
    refine SXL.alloc zp_23 ?_; intro b9
    refine SXL.store 9 sz_23 rfl rfl rfl rfl rfl rfl ?_
    refine SXL.assign rfl ?_
    refine SXL.nil ?_
    refine thenQ.normal ?_
    refine SX.seq ?_
    refine SX.region ?_
    refine SXL.loadNo 3 sh_27 rfl rfl rfl ?_
    refine SXL.call1 (.tuple ⟨[.int .i64 (lookW s), .int .i64 (lookV s), .int .i64 (toldE s 0)]⟩) fn_52 rfl (fun w hI => slook_any s r1.addr r2.addr r1.cap r2.cap (by omega) (by omega) _ (hg.inv hI) (spAtOwn hI o1 o2 (i := 1) (j := 2) rfl rfl)) ?_
    refine SXL.move rfl ?_
    refine SXL.extract rfl rfl ?_
    refine SXL.extract rfl rfl ?_
    refine SXL.extract rfl rfl ?_
    refine SXL.assign rfl ?_
    refine SXL.assign rfl ?_
    refine SXL.assign rfl ?_
    refine SXL.nil ?_
    refine thenQ.normal ?_
    refine SX.seq ?_
    refine SX.region ?_
    refine SXL.loadNo 0 sh_27 rfl rfl rfl ?_
    refine SXL.call1 (.tuple ⟨[.int .i64 (lookW s), .int .i64 (lookV s), .int .i64 (toldE s 0)]⟩) fn_53 rfl (fun w hI => rlook_any s bo ro bc rc _ (hs.inv hI)) ?_
    refine SXL.move rfl ?_
    refine SXL.extract rfl rfl ?_
    refine SXL.extract rfl rfl ?_
    refine SXL.extract rfl rfl ?_
    refine SXL.assign rfl ?_
    refine SXL.assign rfl ?_
    refine SXL.assign rfl ?_
    refine SXL.nil ?_
    refine thenQ.normal ?_
    refine SX.seq ?_
    refine SX.region ?_
    refine SXL.move rfl ?_
    refine SXL.move rfl ?_
    refine SXL.eqlI rfl rfl ?_
    refine SXL.move rfl ?_
    apply SXL.andG 3
    case hl => exact rfl
    case hd => exact rfl
    case hg => exact rfl
    case ht =>
      intro g6
      refine SXL.move rfl ?_
      refine SXL.move rfl ?_
      refine SXL.call1 (.bool (decide (bestL s 0 (poorI s) = bestL s 0 (poorI s)))) fn_28 rfl (fun w hI => sameInts_any (bestL s 0 (poorI s)) (bestL s 0 (poorI s)) q1.addr q2.addr q1.cap q2.cap (by omega) _ (slOnes hI u1 (i := 4) rfl) (slOnes hI u2 (i := 5) rfl)) ?_
      exact SXL.nil (segQ.mk (.skip rfl (.skip rfl (.skip rfl (.skip rfl (EnvSub.refl _))))) rfl rfl ⟨rfl, rfl⟩)
    case hf =>
      intro g6
      refine SXL.pass rfl rfl rfl ?_
      refine SXL.pass rfl rfl rfl ?_
      refine SXL.pass rfl rfl rfl ?_
      exact SXL.nil (segQ.mk (.skip rfl (.skip rfl (.skip rfl (.skip rfl (EnvSub.refl _))))) rfl rfl rfl)
    refine SXL.move rfl ?_
    apply SXL.andG 3
    case hl => exact rfl
    case hd => exact rfl
    case hg => exact rfl
    case ht =>
      intro g7
      refine SXL.move rfl ?_
      refine SXL.move rfl ?_
      refine SXL.eqlI rfl rfl ?_
      exact SXL.nil (segQ.mk (.skip rfl (.skip rfl (.skip rfl (.skip rfl (EnvSub.refl _))))) rfl rfl ⟨rfl, rfl⟩)
    case hf =>
      intro g7
      refine SXL.pass rfl rfl rfl ?_
      refine SXL.pass rfl rfl rfl ?_
      refine SXL.pass rfl rfl rfl ?_
      exact SXL.nil (segQ.mk (.skip rfl (.skip rfl (.skip rfl (.skip rfl (EnvSub.refl _))))) rfl rfl rfl)
    refine SXL.move rfl ?_
    apply SXL.andG 3
    case hl => exact rfl
    case hd => exact rfl
    case hg => exact rfl
    case ht =>
      intro g8
      refine SXL.move rfl ?_
      refine SXL.move rfl ?_
      refine SXL.eqlI rfl rfl ?_
      exact SXL.nil (segQ.mk (.skip rfl (.skip rfl (.skip rfl (.skip rfl (EnvSub.refl _))))) rfl rfl ⟨rfl, rfl⟩)
    case hf =>
      intro g8
      refine SXL.pass rfl rfl rfl ?_
      refine SXL.pass rfl rfl rfl ?_
      refine SXL.pass rfl rfl rfl ?_
      exact SXL.nil (segQ.mk (.skip rfl (.skip rfl (.skip rfl (.skip rfl (EnvSub.refl _))))) rfl rfl rfl)
    refine SXL.move rfl ?_
    apply SXL.andG 3
    case hl => exact rfl
    case hd => exact rfl
    case hg => exact rfl
    case ht =>
      intro g9
      refine SXL.move rfl ?_
      refine SXL.move rfl ?_
      refine SXL.call1 (.bool (decide (bestL s 10 (richI s) = bestL s 10 (richI s)))) fn_28 rfl (fun w hI => sameInts_any (bestL s 10 (richI s)) (bestL s 10 (richI s)) q3.addr q4.addr q3.cap q4.cap (by omega) _ (slOnes hI u3 (i := 6) rfl) (slOnes hI u4 (i := 7) rfl)) ?_
      exact SXL.nil (segQ.mk (.skip rfl (.skip rfl (.skip rfl (.skip rfl (EnvSub.refl _))))) rfl rfl ⟨rfl, rfl⟩)
    case hf =>
      intro g9
      refine SXL.pass rfl rfl rfl ?_
      refine SXL.pass rfl rfl rfl ?_
      refine SXL.pass rfl rfl rfl ?_
      exact SXL.nil (segQ.mk (.skip rfl (.skip rfl (.skip rfl (.skip rfl (EnvSub.refl _))))) rfl rfl rfl)
    refine SXL.move rfl ?_
    apply SXL.andG 3
    case hl => exact rfl
    case hd => exact rfl
    case hg => exact rfl
    case ht =>
      intro g10
      refine SXL.move rfl ?_
      refine SXL.move rfl ?_
      refine SXL.eqlI rfl rfl ?_
      exact SXL.nil (segQ.mk (.skip rfl (.skip rfl (.skip rfl (.skip rfl (EnvSub.refl _))))) rfl rfl ⟨rfl, rfl⟩)
    case hf =>
      intro g10
      refine SXL.pass rfl rfl rfl ?_
      refine SXL.pass rfl rfl rfl ?_
      refine SXL.pass rfl rfl rfl ?_
      exact SXL.nil (segQ.mk (.skip rfl (.skip rfl (.skip rfl (.skip rfl (EnvSub.refl _))))) rfl rfl rfl)
    refine SXL.move rfl ?_
    apply SXL.andG 3
    case hl => exact rfl
    case hd => exact rfl
    case hg => exact rfl
    case ht =>
      intro g11
      refine SXL.loadNo 8 sh_23 rfl rfl rfl ?_
      refine SXL.loadNo 9 sh_23 rfl rfl rfl ?_
      refine SXL.eqlV (p := [fillLo s week bucket, fillHi s week bucket] = [fillLo s week bucket, fillHi s week bucket]) (u := .agg ⟨ints ([fillLo s week bucket, fillHi s week bucket])⟩) (v := .agg ⟨ints ([fillLo s week bucket, fillHi s week bucket])⟩) rfl rfl (run_eql_ints eq_23 eg_23 sh_23 rfl rfl) ?_
      exact SXL.nil (segQ.mk (.skip rfl (.skip rfl (.skip rfl (.skip rfl (EnvSub.refl _))))) rfl rfl ⟨rfl, rfl⟩)
    case hf =>
      intro g11
      refine SXL.pass rfl rfl rfl ?_
      refine SXL.pass rfl rfl rfl ?_
      refine SXL.pass rfl rfl rfl ?_
      exact SXL.nil (segQ.mk (.skip rfl (.skip rfl (.skip rfl (.skip rfl (EnvSub.refl _))))) rfl rfl rfl)
    refine SXL.move rfl ?_
    apply SXL.andG 3
    case hl => exact rfl
    case hd => exact rfl
    case hg => exact rfl
    case ht =>
      intro g12
      refine SXL.move rfl ?_
      refine SXL.move rfl ?_
      refine SXL.eqlI rfl rfl ?_
      exact SXL.nil (segQ.mk (.skip rfl (.skip rfl (.skip rfl (.skip rfl (EnvSub.refl _))))) rfl rfl ⟨rfl, rfl⟩)
    case hf =>
      intro g12
      refine SXL.pass rfl rfl rfl ?_
      refine SXL.pass rfl rfl rfl ?_
      refine SXL.pass rfl rfl rfl ?_
      exact SXL.nil (segQ.mk (.skip rfl (.skip rfl (.skip rfl (.skip rfl (EnvSub.refl _))))) rfl rfl rfl)
    refine SXL.move rfl ?_
    apply SXL.andG 3
    case hl => exact rfl
    case hd => exact rfl
    case hg => exact rfl
    case ht =>
      intro g13
      refine SXL.move rfl ?_
      refine SXL.move rfl ?_
      refine SXL.eqlI rfl rfl ?_
      exact SXL.nil (segQ.mk (.skip rfl (.skip rfl (.skip rfl (.skip rfl (EnvSub.refl _))))) rfl rfl ⟨rfl, rfl⟩)
    case hf =>
      intro g13
      refine SXL.pass rfl rfl rfl ?_
      refine SXL.pass rfl rfl rfl ?_
      refine SXL.pass rfl rfl rfl ?_
      exact SXL.nil (segQ.mk (.skip rfl (.skip rfl (.skip rfl (.skip rfl (EnvSub.refl _))))) rfl rfl rfl)
    refine SXL.move rfl ?_
    apply SXL.andG 3
    case hl => exact rfl
    case hd => exact rfl
    case hg => exact rfl
    case ht =>
      intro g14
      refine SXL.move rfl ?_
      refine SXL.move rfl ?_
      refine SXL.eqlI rfl rfl ?_
      exact SXL.nil (segQ.mk (.skip rfl (.skip rfl (.skip rfl (.skip rfl (EnvSub.refl _))))) rfl rfl ⟨rfl, rfl⟩)
    case hf =>
      intro g14
      refine SXL.pass rfl rfl rfl ?_
      refine SXL.pass rfl rfl rfl ?_
      refine SXL.pass rfl rfl rfl ?_
      exact SXL.nil (segQ.mk (.skip rfl (.skip rfl (.skip rfl (.skip rfl (EnvSub.refl _))))) rfl rfl rfl)
    refine SXL.move rfl ?_
    apply SXL.andG 3
    case hl => exact rfl
    case hd => exact rfl
    case hg => exact rfl
    case ht =>
      intro g15
      refine SXL.move rfl ?_
      refine SXL.move rfl ?_
      refine SXL.eqlI rfl rfl ?_
      exact SXL.nil (segQ.mk (.skip rfl (.skip rfl (.skip rfl (.skip rfl (EnvSub.refl _))))) rfl rfl ⟨rfl, rfl⟩)
    case hf =>
      intro g15
      refine SXL.pass rfl rfl rfl ?_
      refine SXL.pass rfl rfl rfl ?_
      refine SXL.pass rfl rfl rfl ?_
      exact SXL.nil (segQ.mk (.skip rfl (.skip rfl (.skip rfl (.skip rfl (EnvSub.refl _))))) rfl rfl rfl)
    refine SXL.move rfl ?_
    apply SXL.andG 3
    case hl => exact rfl
    case hd => exact rfl
    case hg => exact rfl
    case ht =>
      intro g16
      refine SXL.loadNo 3 sh_27 rfl rfl rfl ?_
      refine SXL.loadNo 0 sh_27 rfl rfl rfl ?_
      refine SXL.call1 (.bool (decide (s = s))) fn_29 rfl (fun w hI => same_any s s r1.addr r2.addr bo ro r1.cap r2.cap bc rc (by omega) (by omega) _ (spAtOwn hI o1 o2 (i := 1) (j := 2) rfl rfl) (hs.inv hI)) ?_
      exact SXL.nil (segQ.mk (.skip rfl (.skip rfl (.skip rfl (.skip rfl (EnvSub.refl _))))) rfl rfl ⟨rfl, rfl⟩)
    case hf =>
      intro g16
      refine SXL.pass rfl rfl rfl ?_
      refine SXL.pass rfl rfl rfl ?_
      refine SXL.pass rfl rfl rfl ?_
      exact SXL.nil (segQ.mk (.skip rfl (.skip rfl (.skip rfl (.skip rfl (EnvSub.refl _))))) rfl rfl rfl)
    refine SXL.assign rfl ?_
    refine SXL.nil ?_
    refine thenQ.normal ?_
    refine SX.ret ?_
    refine retQ.dead [] rfl ?_
    refine retQ.one (ResAt.tmp rfl) ?_
    first | rfl | simp
end Go.Proofs.YtknflipongbngaaDoor

/- SpringFails: whatever the input, the law returns true and the input reads as it did. Its condition: the package's variables are as the program's text lays them (the card ties them). -/
namespace Go.Proofs.YtknflipongbngaaDoor.SpringFails
open Go Go.X Go.S Go.RowKit Go.ChangeShapes Go.WideShapes Go.ChangeAt
set_option maxRecDepth 100000
/-- The door's own heap meets the condition. -/
theorem door_met (os : Os) (args : Array Value) : laidMetH Tryd.prog Rows.springFailsRow.laid ((World.doorLaid Tryd.prog 24 os).forCall (fun _ _ => 0) ⟨#[], args, []⟩).memory :=
  laidMetH_of_parts3 (fuel := 8) (laidMet_of_run' 8 (by kernel_rfl) (by kernel_rfl)) (by kernel_rfl) (by kernel_rfl)
theorem spec_fn (H : Type) (ds : List (DataW H)) (h : ds.length = Tryd.f6.params.toList.length) : Rows.springFailsSpec.fn H ds = { results := [.lit (.bool true)], args := ds } := by
  rw [Tryd.params6] at h
  match ds, h with
  | [e0, e1, e2, e3], _ => rfl
theorem contract (H : Type) (enc : TypeId × Value → H) (W : World) (base : Nat) (args : Array Value) (ds gs : List (DataW H)) (before : List MemPlace)
    (hval : ∀ (j : Nat) t v, Tryd.f6.params[j]? = some t → args[j]? = some v → Value.okWide Tryd.prog W .any base t v)
    (hW : DataW.Whole enc Tryd.prog Tryd.f6.params.toList Rows.springFailsSpec.vars false W args.toList ds gs before) (hL : laidMetH Tryd.prog Rows.springFailsRow.laid W) :
    Calls Tryd.prog 6 args W fun e W' => ∃ v, e = .returned v ∧ Rows.springFailsSpec.post enc Tryd.prog Tryd.f6 false true false false W args v W' := by
  have hW' := hW
  obtain ⟨p, q, hA0, hV, rfl, hfz, hnd⟩ := hW
  have hA : DataW.TrodAll enc Tryd.prog W 0 (fun _ => true) true Tryd.f6.params.toList args.toList ds p := hA0
  rw [Tryd.params6] at hA hval
  obtain ⟨v0, vs0, d0, ds0, p0, q0, hv0, rfl, hp0, h0, r0⟩ := trodAll_cons hA
  obtain ⟨v1, vs1, d1, ds1, p1, q1, hv1, rfl, hp1, h1, r1⟩ := trodAll_cons r0
  obtain ⟨v2, vs2, d2, ds2, p2, q2, hv2, rfl, hp2, h2, r2⟩ := trodAll_cons r1
  obtain ⟨v3, vs3, d3, ds3, p3, q3, hv3, rfl, hp3, h3, r3⟩ := trodAll_cons r2
  obtain ⟨hvn, rfl, hpn⟩ := trodAll_nil r3
  have hargs : args = #[v0, v1, v2, v3] := by cases args; simp_all
  subst hargs
  obtain ⟨cs0, rfl, hf0⟩ := arg_struct lay27 ⟨_, Tryd.underlying27⟩ (hval 0 27 _ rfl rfl) h0
  obtain ⟨s, bo, ro, bc, rc, rfl, hs⟩ := sp_of_fits hf0
  obtain ⟨need, rfl, bneed⟩ := fit_i64 (arg_cell lay3 (by kernel_rfl) (hval 1 3 _ rfl rfl) h1)
  obtain ⟨week, rfl, bweek⟩ := fit_i64 (arg_cell lay3 (by kernel_rfl) (hval 2 3 _ rfl rfl) h2)
  obtain ⟨bucket, rfl, bbucket⟩ := fit_i64 (arg_cell lay3 (by kernel_rfl) (hval 3 3 _ rfl rfl) h3)
  have hg : Gl W := ⟨checks_of_laid hL (by simp [Rows.springFailsRow]), none_of_laid hL rfl⟩
  refine Calls.mono (show Calls Tryd.prog 6 _ W _ from fails_law s bo ro bc rc need week bucket W hg hs) ?_
  rintro e W' ⟨v, own, rfl, hI, rfl⟩
  exact ⟨_, rfl, law_post laidOut (by rw [Tryd.params6]; kernel_rfl) rfl (spec_fn H) (tb := 4) (by kernel_rfl) Tryd.underlying4 hW' hI.below⟩
theorem lifted (os : Os) (started : os.Started) (H : Type) (enc : TypeId × Value → H) :
    ReturnsInHanded {} Tryd.checked os 6 .any (fun w args => (Rows.springFailsSpec.pre enc Tryd.prog Tryd.f6 [] false w args ∧ laidMetH Tryd.prog Rows.springFailsRow.laid w) ∧ sizedMet enc Tryd.prog Tryd.f6 (OpenSpec.ofChange Rows.springFailsSpec) false w args)
      (Rows.springFailsSpec.post enc Tryd.prog Tryd.f6 false true false false) := by
  refine returnsInHanded_of_change_and (C := Tryd.checked) (X := fun w _ => laidMetH Tryd.prog Rows.springFailsRow.laid w) (fun _ _ _ hh h => h.of_heap hh) ownGd started (by kernel_rfl) Tryd.func6
    (ChangeSpec.witness_shaped (enc := enc) (C := Tryd.checked) (os := os) (X := fun w _ => laidMetH Tryd.prog Rows.springFailsRow.laid w) false (World.doorLaid Tryd.prog 24 os) #[.agg ⟨[.int .i64 0, .int .i64 0, .int .i64 0, .int .i64 0, .int .i64 0, .int .i64 0, .int .i64 0, .slice none 0 0, .slice none 0 0]⟩, .int .i64 0, .int .i64 0, .int .i64 0] 8 rfl (World.shaped_of_RefB (by kernel_rfl) (by kernel_rfl)) (by kernel_rfl) (by kernel_rfl) (by kernel_rfl) (door_met os _)) ?_
  intro W base args ds gs before hval0 hW _ _ hL _
  exact contract H enc W base args ds gs before hval0 hW hL
theorem said : Rows.SpringFailsSaid :=
  OpenClaim.holds_of_wide 6 Tryd.f6 rfl rfl rfl rfl rfl rfl rfl ⟨rfl, rfl, rfl, rfl, rfl⟩ rfl rfl rfl rfl rfl (by kernel_rfl) Tryd.func6 (by kernel_rfl)
    (of_decide_eq_true (by kernel_rfl)) (by unfold Func.isWrapper; first | (rw [if_pos (by decide +kernel)]; kernel_rfl) | (rw [if_neg (by decide +kernel)]; exact ⟨rfl, rfl⟩))
    (fun os started H enc _ => lifted os started H enc)
theorem plain (f : FuncId) (fn : Func) (hf : Tryd.pinned.checked.prog.funcNamed "aguador/aguadorlaw01.SpringFails" = some f) (hfn : Tryd.pinned.checked.prog.funcs[f]? = some fn) :
    false = Tryd.pinned.checked.prog.looks [] ∧ ∀ (j : Nat) t, fn.params[j]? = some t → Tryd.pinned.checked.prog.wantsStandIn t = false := by
  obtain rfl : f = 6 := Option.some.inj ((show Tryd.prog.funcNamed "aguador/aguadorlaw01.SpringFails" = some 6 by kernel_rfl).symm.trans hf) |>.symm
  obtain rfl : fn = Tryd.f6 := (Option.some.inj (Tryd.func6.symm.trans hfn)).symm
  refine ⟨by kernel_rfl, fun j t ht => ?_⟩
  rw [Tryd.params6] at ht
  have hm : t ∈ ([27, 3, 3, 3] : List TypeId) := by simpa using Array.mem_of_getElem? ht
  have hall : (([27, 3, 3, 3] : List TypeId).all fun u => !Tryd.prog.wantsStandIn u) = true := by kernel_rfl
  exact (show Tryd.prog.wantsStandIn t = false by simpa using List.all_eq_true.1 hall t hm)
theorem springFails_card : Rows.SpringFailsCardSaid :=
  Claim7.holds_tied_plain_at .later [] _ _ _ _ said (fun _ h => by cases h) (by kernel_rfl) (fun _ h => by cases h) springFails_row_tie rfl ⟨rfl, rfl⟩ (by kernel_rfl) rfl plain (by kernel_rfl)
end Go.Proofs.YtknflipongbngaaDoor.SpringFails
