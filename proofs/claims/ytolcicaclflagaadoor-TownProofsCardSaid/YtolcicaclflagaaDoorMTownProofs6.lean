/- TownProofs: whatever the input, the law returns true and the input reads as it did. Its condition: the package's variables are as the program's text lays them (the card ties them). -/
import Derived.Test.YtolcicaclflagaaDoorMTownProofs5
import Derived.SevenTiedAt
/- The walks of functions. -/
namespace Go.Proofs.YtolcicaclflagaaDoor
open Go.X Go.S
theorem great_any (s : Sp) (bo ro : Option Addr) (bc rc : Nat) (w : World) :
    CallsR Tryd.prog 37 [.agg ⟨[.int .i64 s.weeks, .int .i64 s.most, .int .i64 s.fall, .int .i64 s.a0, .int .i64 s.a1, .int .i64 s.w0, .int .i64 s.w1, (.slice bo s.book.length bc), (.slice ro s.reads.length rc)]⟩] w (fun v _ => v = .bool (decide ((30 : Int) < (s.book.length : Int) ∨ (30 : Int) < (s.reads.length : Int)))) := by
  refine CallsR.of_SX (n := 13) (rs := [.tmp 2]) Tryd.func37 rfl rfl rfl rfl ?_
  show SX _ _ _ ⟨[(0, .agg ⟨[.int .i64 s.weeks, .int .i64 s.most, .int .i64 s.fall, .int .i64 s.a0, .int .i64 s.a1, .int .i64 s.w0, .int .i64 s.w1, (.slice bo s.book.length bc), (.slice ro s.reads.length rc)]⟩)], [], []⟩
  refine SX.seq ?_
  refine SX.region ?_
  refine SXL.box rfl rfl ?_; intro b0
  refine SXL.assign rfl ?_
  refine SXL.nil ?_
  refine thenQ.normal ?_
  refine SX.seq ?_
  refine SX.region ?_
  refine SXL.fieldAddr fp_68_5 rfl ?_
  refine SXL.load1o 0 sh_65 rfl rfl rfl ?_
  refine SXL.len is_65 rfl ?_
  refine SXL.gtr rfl rfl ?_
  refine SXL.move rfl ?_
  apply SXL.orG 4
  case hl => exact rfl
  case hd => exact rfl
  case hg => exact rfl
  case ht =>
    intro g1
    refine SXL.pass rfl rfl rfl ?_
    refine SXL.pass rfl rfl rfl ?_
    refine SXL.pass rfl rfl rfl ?_
    refine SXL.pass rfl rfl rfl ?_
    exact SXL.nil (segQ.mk (.skip rfl (.skip rfl (.skip rfl (.skip rfl (.skip rfl (EnvSub.refl _)))))) rfl rfl rfl)
  case hf =>
    intro g1
    refine SXL.fieldAddr fp_68_6 rfl ?_
    refine SXL.load1o 0 sh_66 rfl rfl rfl ?_
    refine SXL.len is_66 rfl ?_
    refine SXL.gtr rfl rfl ?_
    exact SXL.nil (segQ.mk (.skip rfl (.skip rfl (.skip rfl (.skip rfl (.skip rfl (EnvSub.refl _)))))) rfl rfl ⟨rfl, rfl⟩)
  refine SXL.assign rfl ?_
  refine SXL.nil ?_
  refine thenQ.normal ?_
  refine SX.ret ?_
  refine retQ.one (ResAt.tmp rfl) ?_
  first | rfl | assumption
theorem sameInts_any (l m : List Int) (lo mo : Option Addr) (lc mc : Nat) (hmx : l.length ≤ 1000000) (w : World) (h1 : RowsAt w lo 1 (ones l)) (h2 : RowsAt w mo 1 (ones m)) :
    CallsR Tryd.prog 53 [.slice lo l.length lc, .slice mo m.length mc] w (fun v _ => v = .bool (decide (l = m))) := by
  refine CallsR.of_SX (n := 26) (rs := [.tmp 4]) Tryd.func53 rfl rfl rfl rfl ?_
  show SX _ _ _ ⟨[(0, .slice lo l.length lc), (1, .slice mo m.length mc)], [], []⟩
  refine SX.seq ?_
  refine SX.region ?_
  refine SXL.assign rfl ?_
  refine SXL.nil ?_
  refine thenQ.normal ?_
  refine SX.seq ?_
  refine SX.seq ?_
  refine SX.region ?_
  refine SXL.move rfl ?_
  refine SXL.len is_33 rfl ?_
  refine SXL.move rfl ?_
  refine SXL.len is_33 rfl ?_
  refine SXL.neqI rfl rfl ?_
  refine SXL.nil ?_
  refine thenQ.normal ?_
  refine SX.condP rfl (fun c10 => ?_) (fun c10 => ?_)
  · refine SX.seq ?_
    refine SX.region ?_
    refine SXL.assign rfl ?_
    refine SXL.nil ?_
    refine thenQ.normal ?_
    refine SX.ret ?_
    refine thenQ.ret ?_
    refine retQ.one (ResAt.tmp rfl) ?_
    exact congrArg Value.bool (decide_eq_false (by intro h; subst h; omega)).symm
  · refine SX.skip ?_
    refine thenQ.normal ?_
    refine SX.seq ?_
    refine SX.seq ?_
    refine SX.region ?_
    refine SXL.assign rfl ?_
    refine SXL.nil ?_
    refine thenQ.normal ?_
    refine SX.block ?_
    refine SX.loopG (α := Nat) [0, 1, 4] rfl (fun k => [(5, .int .i64 ((k : Int)))]) (fun k => []) (fun k => k ≤ l.length ∧ ∀ i, i < k → l.getD i 0 = m.getD i 0) (fun k => l.length - k) 0 ⟨Nat.zero_le _, fun _ h => absurd h (Nat.not_lt_zero _)⟩ ⟨rfl, trivial⟩ rfl ?_
    rintro k ⟨hk, hall⟩
    refine SX.seq ?_
    refine SX.seq ?_
    refine SX.region ?_
    refine SXL.move rfl ?_
    refine SXL.move rfl ?_
    refine SXL.len is_33 rfl ?_
    refine SXL.lss rfl rfl ?_
    refine SXL.nil ?_
    refine thenQ.normal ?_
    refine SX.condP rfl (fun c14 => ?_) (fun c14 => ?_)
    · refine SX.skip ?_
      refine thenQ.normal ?_
      refine SX.seq ?_
      refine SX.block ?_
      refine SX.seq ?_
      obtain ⟨b, o, ha, hm⟩ := oneI h1 (i := k) (by omega)
      obtain ⟨b2, o2, ha2, hm2⟩ := oneI h2 (i := k) (by omega)
      refine SX.draw 9 (by kernel_rfl) (by kernel_rfl) {} ?_
      refine SXA.take 0 9 rfl (by kernel_rfl) rfl ?_
      refine SXL.move rfl ?_
      refine SXL.move rfl ?_
      refine SXL.indexR el_33 rfl rfl ha (by omega) ?_
      refine SXL.load1 sh_3 rfl (hm _) ?_
      refine SXL.move rfl ?_
      refine SXL.move rfl ?_
      refine SXL.indexR el_33 rfl rfl ha2 (by omega) ?_
      refine SXL.load1 sh_3 rfl (hm2 _) ?_
      refine SXL.neqI rfl rfl ?_
      refine SXL.nil ⟨rfl, rfl, rfl, ?_⟩
      refine SXA.done (by kernel_rfl) ?_
      refine SXL.nil ?_
      refine thenQ.normal ?_
      refine SX.condP rfl (fun c25 => ?_) (fun c25 => ?_)
      · refine SX.seq ?_
        refine SX.region ?_
        refine SXL.assign rfl ?_
        refine SXL.nil ?_
        refine thenQ.normal ?_
        refine SX.ret ?_
        refine blockQ.ret ?_
        refine thenQ.ret ?_
        refine thenQ.ret ?_
        refine blockQ.ret ?_
        refine thenQ.ret ?_
        refine retQ.one (ResAt.tmp rfl) ?_
        exact congrArg Value.bool (decide_eq_false (by intro h; subst h; exact c25 rfl)).symm
      · refine SX.skip ?_
        refine blockQ.normal ?_
        refine thenQ.normal ?_
        refine SX.region ?_
        refine SXL.move rfl ?_
        refine SXL.add rfl rfl (by omega) ?_
        refine SXL.assign rfl ?_
        refine SXL.nil ?_
        refine thenQ.normal ?_
        refine ⟨k + 1, Meets.mk _ ⟨rfl, trivial⟩ ⟨rfl, rfl, rfl, trivial⟩ rfl, ?_, (by omega)⟩
        refine ⟨by omega, fun i hi => ?_⟩
        by_cases e : i = k
        · subst e; exact Decidable.not_not.1 c25
        · exact hall i (by omega)
    · refine SX.exit ?_
      refine thenQ.exit ?_
      refine thenQ.exit ?_
      refine blockQ.exit ?_
      refine thenQ.normal ?_
      refine SX.seq ?_
      refine SX.region ?_
      refine SXL.assign rfl ?_
      refine SXL.nil ?_
      refine thenQ.normal ?_
      refine SX.ret ?_
      refine retQ.one (ResAt.tmp rfl) ?_
      exact congrArg Value.bool (decide_eq_true (List.ext_getElem (by omega) (fun i h3 h4 => by have := hall i (by omega); simpa [h3, h4] using this))).symm
theorem same_any (x y : Sp) (xb xr yb yr : Option Addr) (xbc xrc ybc yrc : Nat) (hm1 : x.book.length ≤ 1000000) (hm2 : x.reads.length ≤ 1000000) (w : World) (hx : SpAt w x xb xr) (hy : SpAt w y yb yr) :
    CallsR Tryd.prog 54 [.agg ⟨[.int .i64 x.weeks, .int .i64 x.most, .int .i64 x.fall, .int .i64 x.a0, .int .i64 x.a1, .int .i64 x.w0, .int .i64 x.w1, (.slice xb x.book.length xbc), (.slice xr x.reads.length xrc)]⟩, .agg ⟨[.int .i64 y.weeks, .int .i64 y.most, .int .i64 y.fall, .int .i64 y.a0, .int .i64 y.a1, .int .i64 y.w0, .int .i64 y.w1, (.slice yb y.book.length ybc), (.slice yr y.reads.length yrc)]⟩] w (fun v _ => v = .bool (decide (x = y))) := by
  refine CallsR.of_SX (n := 94) (rs := [.tmp 4]) Tryd.func54 rfl rfl rfl rfl ?_
  show SX _ _ _ ⟨[(0, .agg ⟨[.int .i64 x.weeks, .int .i64 x.most, .int .i64 x.fall, .int .i64 x.a0, .int .i64 x.a1, .int .i64 x.w0, .int .i64 x.w1, (.slice xb x.book.length xbc), (.slice xr x.reads.length xrc)]⟩), (1, .agg ⟨[.int .i64 y.weeks, .int .i64 y.most, .int .i64 y.fall, .int .i64 y.a0, .int .i64 y.a1, .int .i64 y.w0, .int .i64 y.w1, (.slice yb y.book.length ybc), (.slice yr y.reads.length yrc)]⟩)], [], []⟩
  refine SX.seq ?_
  refine SX.region ?_
  refine SXL.box rfl rfl ?_; intro b0
  refine SXL.box rfl rfl ?_; intro b1
  refine SXL.assign rfl ?_
  refine SXL.nil ?_
  refine thenQ.normal ?_
  refine SX.seq ?_
  refine SX.seq ?_
  refine SX.region ?_
  refine SXL.fieldAddr fp_68_0 rfl ?_
  refine SXL.load1o 0 sh_3 rfl rfl rfl ?_
  refine SXL.fieldAddr fp_68_0 rfl ?_
  refine SXL.load1o 1 sh_3 rfl rfl rfl ?_
  refine SXL.neqI rfl rfl ?_
  refine SXL.move rfl ?_
  apply SXL.orG 5
  case hl => exact rfl
  case hd => exact rfl
  case hg => exact rfl
  case ht =>
    intro g1
    refine SXL.pass rfl rfl rfl ?_
    refine SXL.pass rfl rfl rfl ?_
    refine SXL.pass rfl rfl rfl ?_
    refine SXL.pass rfl rfl rfl ?_
    refine SXL.pass rfl rfl rfl ?_
    exact SXL.nil (segQ.mk (.skip rfl (.skip rfl (.skip rfl (.skip rfl (.skip rfl (.skip rfl (EnvSub.refl _))))))) rfl rfl rfl)
  case hf =>
    intro g1
    refine SXL.fieldAddr fp_68_1 rfl ?_
    refine SXL.load1o 0 sh_3 rfl rfl rfl ?_
    refine SXL.fieldAddr fp_68_1 rfl ?_
    refine SXL.load1o 1 sh_3 rfl rfl rfl ?_
    refine SXL.neqI rfl rfl ?_
    exact SXL.nil (segQ.mk (.skip rfl (.skip rfl (.skip rfl (.skip rfl (.skip rfl (.skip rfl (EnvSub.refl _))))))) rfl rfl ⟨rfl, rfl⟩)
  refine SXL.move rfl ?_
  apply SXL.orG 5
  case hl => exact rfl
  case hd => exact rfl
  case hg => exact rfl
  case ht =>
    intro g2
    refine SXL.pass rfl rfl rfl ?_
    refine SXL.pass rfl rfl rfl ?_
    refine SXL.pass rfl rfl rfl ?_
    refine SXL.pass rfl rfl rfl ?_
    refine SXL.pass rfl rfl rfl ?_
    exact SXL.nil (segQ.mk (.skip rfl (.skip rfl (.skip rfl (.skip rfl (.skip rfl (.skip rfl (EnvSub.refl _))))))) rfl rfl rfl)
  case hf =>
    intro g2
    refine SXL.fieldAddr fp_68_2 rfl ?_
    refine SXL.load1o 0 sh_3 rfl rfl rfl ?_
    refine SXL.fieldAddr fp_68_2 rfl ?_
    refine SXL.load1o 1 sh_3 rfl rfl rfl ?_
    refine SXL.neqI rfl rfl ?_
    exact SXL.nil (segQ.mk (.skip rfl (.skip rfl (.skip rfl (.skip rfl (.skip rfl (.skip rfl (EnvSub.refl _))))))) rfl rfl ⟨rfl, rfl⟩)
  refine SXL.move rfl ?_
  apply SXL.orG 5
  case hl => exact rfl
  case hd => exact rfl
  case hg => exact rfl
  case ht =>
    intro g3
    refine SXL.pass rfl rfl rfl ?_
    refine SXL.pass rfl rfl rfl ?_
    refine SXL.pass rfl rfl rfl ?_
    refine SXL.pass rfl rfl rfl ?_
    refine SXL.pass rfl rfl rfl ?_
    exact SXL.nil (segQ.mk (.skip rfl (.skip rfl (.skip rfl (.skip rfl (.skip rfl (.skip rfl (EnvSub.refl _))))))) rfl rfl rfl)
  case hf =>
    intro g3
    refine SXL.fieldAddr fp_68_3 rfl ?_
    refine SXL.loadNo 0 sh_55 rfl rfl rfl ?_
    refine SXL.fieldAddr fp_68_3 rfl ?_
    refine SXL.loadNo 1 sh_55 rfl rfl rfl ?_
    refine SXL.neqV (p := [x.a0, x.a1] ≠ [y.a0, y.a1]) (u := .agg ⟨ints ([x.a0, x.a1])⟩) (v := .agg ⟨ints ([y.a0, y.a1])⟩) rfl rfl (run_neq_ints eq_55 eg_55 sh_55 rfl rfl) ?_
    exact SXL.nil (segQ.mk (.skip rfl (.skip rfl (.skip rfl (.skip rfl (.skip rfl (.skip rfl (EnvSub.refl _))))))) rfl rfl ⟨rfl, rfl⟩)
  refine SXL.move rfl ?_
  apply SXL.orG 5
  case hl => exact rfl
  case hd => exact rfl
  case hg => exact rfl
  case ht =>
    intro g4
    refine SXL.pass rfl rfl rfl ?_
    refine SXL.pass rfl rfl rfl ?_
    refine SXL.pass rfl rfl rfl ?_
    refine SXL.pass rfl rfl rfl ?_
    refine SXL.pass rfl rfl rfl ?_
    exact SXL.nil (segQ.mk (.skip rfl (.skip rfl (.skip rfl (.skip rfl (.skip rfl (.skip rfl (EnvSub.refl _))))))) rfl rfl rfl)
  case hf =>
    intro g4
    refine SXL.fieldAddr fp_68_4 rfl ?_
    refine SXL.loadNo 0 sh_55 rfl rfl rfl ?_
    refine SXL.fieldAddr fp_68_4 rfl ?_
    refine SXL.loadNo 1 sh_55 rfl rfl rfl ?_
    refine SXL.neqV (p := [x.w0, x.w1] ≠ [y.w0, y.w1]) (u := .agg ⟨ints ([x.w0, x.w1])⟩) (v := .agg ⟨ints ([y.w0, y.w1])⟩) rfl rfl (run_neq_ints eq_55 eg_55 sh_55 rfl rfl) ?_
    exact SXL.nil (segQ.mk (.skip rfl (.skip rfl (.skip rfl (.skip rfl (.skip rfl (.skip rfl (EnvSub.refl _))))))) rfl rfl ⟨rfl, rfl⟩)
  refine SXL.move rfl ?_
  apply SXL.orG 7
  case hl => exact rfl
  case hd => exact rfl
  case hg => exact rfl
  case ht =>
    intro g5
    refine SXL.pass rfl rfl rfl ?_
    refine SXL.pass rfl rfl rfl ?_
    refine SXL.pass rfl rfl rfl ?_
    refine SXL.pass rfl rfl rfl ?_
    refine SXL.pass rfl rfl rfl ?_
    refine SXL.pass rfl rfl rfl ?_
    refine SXL.pass rfl rfl rfl ?_
    exact SXL.nil (segQ.mk (.skip rfl (.skip rfl (.skip rfl (.skip rfl (.skip rfl (.skip rfl (.skip rfl (.skip rfl (EnvSub.refl _))))))))) rfl rfl rfl)
  case hf =>
    intro g5
    refine SXL.fieldAddr fp_68_5 rfl ?_
    refine SXL.load1o 0 sh_65 rfl rfl rfl ?_
    refine SXL.len is_65 rfl ?_
    refine SXL.fieldAddr fp_68_5 rfl ?_
    refine SXL.load1o 1 sh_65 rfl rfl rfl ?_
    refine SXL.len is_65 rfl ?_
    refine SXL.neqI rfl rfl ?_
    exact SXL.nil (segQ.mk (.skip rfl (.skip rfl (.skip rfl (.skip rfl (.skip rfl (.skip rfl (.skip rfl (.skip rfl (EnvSub.refl _))))))))) rfl rfl ⟨rfl, rfl⟩)
  refine SXL.move rfl ?_
  apply SXL.orG 7
  case hl => exact rfl
  case hd => exact rfl
  case hg => exact rfl
  case ht =>
    intro c57
    refine SXL.pass rfl rfl rfl ?_
    refine SXL.pass rfl rfl rfl ?_
    refine SXL.pass rfl rfl rfl ?_
    refine SXL.pass rfl rfl rfl ?_
    refine SXL.pass rfl rfl rfl ?_
    refine SXL.pass rfl rfl rfl ?_
    refine SXL.pass rfl rfl rfl ?_
    exact SXL.nil (segQ.mk (.skip rfl (.skip rfl (.skip rfl (.skip rfl (.skip rfl (.skip rfl (.skip rfl (.skip rfl (EnvSub.refl _))))))))) rfl rfl rfl)
  case hf =>
    intro c57
    refine SXL.fieldAddr fp_68_6 rfl ?_
    refine SXL.load1o 0 sh_66 rfl rfl rfl ?_
    refine SXL.len is_66 rfl ?_
    refine SXL.fieldAddr fp_68_6 rfl ?_
    refine SXL.load1o 1 sh_66 rfl rfl rfl ?_
    refine SXL.len is_66 rfl ?_
    refine SXL.neqI rfl rfl ?_
    exact SXL.nil (segQ.mk (.skip rfl (.skip rfl (.skip rfl (.skip rfl (.skip rfl (.skip rfl (.skip rfl (.skip rfl (EnvSub.refl _))))))))) rfl rfl ⟨rfl, rfl⟩)
  refine SXL.nil ?_
  refine thenQ.normal ?_
  refine SX.condP rfl (fun c57 => ?_) (fun c57 => ?_)
  · refine SX.seq ?_
    refine SX.region ?_
    refine SXL.assign rfl ?_
    refine SXL.nil ?_
    refine thenQ.normal ?_
    refine SX.ret ?_
    refine thenQ.ret ?_
    refine retQ.one (ResAt.tmp rfl) ?_
    exact congrArg Value.bool (decide_eq_false (by intro h; subst h; simp at c57)).symm
  · refine SX.skip ?_
    refine thenQ.normal ?_
    refine SX.seq ?_
    refine SX.seq ?_
    refine SX.region ?_
    refine SXL.assign rfl ?_
    refine SXL.nil ?_
    refine thenQ.normal ?_
    refine SX.block ?_
    refine SX.loopG (α := Nat) [2, 3, 4] rfl (fun k => [(5, .int .i64 ((k : Int)))]) (fun k => []) (fun k => k ≤ x.book.length ∧ ∀ i, i < k → x.book.getD i default = y.book.getD i default) (fun k => x.book.length - k) 0 ⟨Nat.zero_le _, fun _ h => absurd h (Nat.not_lt_zero _)⟩ ⟨rfl, trivial⟩ rfl ?_
    rintro k ⟨hk, hall⟩
    refine SX.seq ?_
    refine SX.seq ?_
    refine SX.region ?_
    refine SXL.move rfl ?_
    refine SXL.fieldAddr fp_68_5 rfl ?_
    refine SXL.load1o 0 sh_65 rfl rfl rfl ?_
    refine SXL.len is_65 rfl ?_
    refine SXL.lss rfl rfl ?_
    refine SXL.nil ?_
    refine thenQ.normal ?_
    refine SX.condP rfl (fun c62 => ?_) (fun c62 => ?_)
    · refine SX.skip ?_
      refine thenQ.normal ?_
      refine SX.seq ?_
      refine SX.block ?_
      refine SX.seq ?_
      obtain ⟨b, o, ha, hm⟩ := hx.lineD (i := k) (by omega)
      obtain ⟨b2, o2, ha2, hn⟩ := hy.lineD (i := k) (by omega)
      refine SX.draw 11 (by kernel_rfl) (by kernel_rfl) {} ?_
      refine SXA.take 0 11 rfl (by kernel_rfl) rfl ?_
      refine SXL.fieldAddr fp_68_5 rfl ?_
      refine SXL.load1o 0 sh_65 rfl rfl rfl ?_
      refine SXL.move rfl ?_
      refine SXL.indexR el_65 rfl rfl ha (by omega) ?_
      refine SXL.loadN sh_129 rfl (hm _) rfl ?_
      refine SXL.fieldAddr fp_68_5 rfl ?_
      refine SXL.load1o 1 sh_65 rfl rfl rfl ?_
      refine SXL.move rfl ?_
      refine SXL.indexR el_65 rfl rfl ha2 (by omega) ?_
      refine SXL.loadN sh_129 rfl (hn _) rfl ?_
      refine SXL.neqV (p := (x.book.getD k default).ints ≠ (y.book.getD k default).ints) (u := .agg ⟨ints ((x.book.getD k default).ints)⟩) (v := .agg ⟨ints ((y.book.getD k default).ints)⟩) rfl rfl (run_neq_ints eq_129 eg_129 sh_129 rfl rfl) ?_
      refine SXL.nil ⟨rfl, rfl, rfl, ?_⟩
      refine SXA.done (by kernel_rfl) ?_
      refine SXL.nil ?_
      refine thenQ.normal ?_
      refine SX.condP rfl (fun c75 => ?_) (fun c75 => ?_)
      · refine SX.seq ?_
        refine SX.region ?_
        refine SXL.assign rfl ?_
        refine SXL.nil ?_
        refine thenQ.normal ?_
        refine SX.ret ?_
        refine blockQ.ret ?_
        refine thenQ.ret ?_
        refine thenQ.ret ?_
        refine blockQ.ret ?_
        refine thenQ.ret ?_
        refine retQ.one (ResAt.tmp rfl) ?_
        exact congrArg Value.bool (decide_eq_false (by intro h; subst h; exact c75 rfl)).symm
      · refine SX.skip ?_
        refine blockQ.normal ?_
        refine thenQ.normal ?_
        refine SX.region ?_
        refine SXL.move rfl ?_
        refine SXL.add rfl rfl (by omega) ?_
        refine SXL.assign rfl ?_
        refine SXL.nil ?_
        refine thenQ.normal ?_
        refine ⟨k + 1, Meets.mk _ ⟨rfl, trivial⟩ ⟨rfl, rfl, rfl, trivial⟩ rfl, ?_, (by omega)⟩
        refine ⟨by omega, fun i hi => ?_⟩
        by_cases e : i = k
        · subst e; exact Ln.ints_inj.1 (Decidable.not_not.1 c75)
        · exact hall i (by omega)
    · refine SX.exit ?_
      refine thenQ.exit ?_
      refine thenQ.exit ?_
      refine blockQ.exit ?_
      refine thenQ.normal ?_
      refine SX.seq ?_
      refine SX.seq ?_
      refine SX.region ?_
      refine SXL.assign rfl ?_
      refine SXL.nil ?_
      refine thenQ.normal ?_
      refine SX.block ?_
      refine SX.loopG (α := Nat) [2, 3, 4] rfl (fun k => [(6, .int .i64 ((k : Int)))]) (fun k => []) (fun k => k ≤ x.reads.length ∧ ∀ i, i < k → x.reads.getD i default = y.reads.getD i default) (fun k => x.reads.length - k) 0 ⟨Nat.zero_le _, fun _ h => absurd h (Nat.not_lt_zero _)⟩ ⟨rfl, trivial⟩ rfl ?_
      rintro k ⟨hk2, hall2⟩
      refine SX.seq ?_
      refine SX.seq ?_
      refine SX.region ?_
      refine SXL.move rfl ?_
      refine SXL.fieldAddr fp_68_6 rfl ?_
      refine SXL.load1o 0 sh_66 rfl rfl rfl ?_
      refine SXL.len is_66 rfl ?_
      refine SXL.lss rfl rfl ?_
      refine SXL.nil ?_
      refine thenQ.normal ?_
      refine SX.condP rfl (fun c80 => ?_) (fun c80 => ?_)
      · refine SX.skip ?_
        refine thenQ.normal ?_
        refine SX.seq ?_
        refine SX.block ?_
        refine SX.seq ?_
        obtain ⟨b, o, ha, hm⟩ := hx.readD (i := k) (by omega)
        obtain ⟨b2, o2, ha2, hn⟩ := hy.readD (i := k) (by omega)
        refine SX.draw 11 (by kernel_rfl) (by kernel_rfl) {} ?_
        refine SXA.take 0 11 rfl (by kernel_rfl) rfl ?_
        refine SXL.fieldAddr fp_68_6 rfl ?_
        refine SXL.load1o 0 sh_66 rfl rfl rfl ?_
        refine SXL.move rfl ?_
        refine SXL.indexR el_66 rfl rfl ha (by omega) ?_
        refine SXL.loadN sh_131 rfl (hm _) rfl ?_
        refine SXL.fieldAddr fp_68_6 rfl ?_
        refine SXL.load1o 1 sh_66 rfl rfl rfl ?_
        refine SXL.move rfl ?_
        refine SXL.indexR el_66 rfl rfl ha2 (by omega) ?_
        refine SXL.loadN sh_131 rfl (hn _) rfl ?_
        refine SXL.neqV (p := (x.reads.getD k default).ints ≠ (y.reads.getD k default).ints) (u := .agg ⟨ints ((x.reads.getD k default).ints)⟩) (v := .agg ⟨ints ((y.reads.getD k default).ints)⟩) rfl rfl (run_neq_ints eq_131 eg_131 sh_131 rfl rfl) ?_
        refine SXL.nil ⟨rfl, rfl, rfl, ?_⟩
        refine SXA.done (by kernel_rfl) ?_
        refine SXL.nil ?_
        refine thenQ.normal ?_
        refine SX.condP rfl (fun c93 => ?_) (fun c93 => ?_)
        · refine SX.seq ?_
          refine SX.region ?_
          refine SXL.assign rfl ?_
          refine SXL.nil ?_
          refine thenQ.normal ?_
          refine SX.ret ?_
          refine blockQ.ret ?_
          refine thenQ.ret ?_
          refine thenQ.ret ?_
          refine blockQ.ret ?_
          refine thenQ.ret ?_
          refine retQ.one (ResAt.tmp rfl) ?_
          exact congrArg Value.bool (decide_eq_false (by intro h; subst h; exact c93 rfl)).symm
        · refine SX.skip ?_
          refine blockQ.normal ?_
          refine thenQ.normal ?_
          refine SX.region ?_
          refine SXL.move rfl ?_
          refine SXL.add rfl rfl (by omega) ?_
          refine SXL.assign rfl ?_
          refine SXL.nil ?_
          refine thenQ.normal ?_
          refine ⟨k + 1, Meets.mk _ ⟨rfl, trivial⟩ ⟨rfl, rfl, rfl, trivial⟩ rfl, ?_, (by omega)⟩
          refine ⟨by omega, fun i hi => ?_⟩
          by_cases e : i = k
          · subst e; exact Rd.ints_inj.1 (Decidable.not_not.1 c93)
          · exact hall2 i (by omega)
      · refine SX.exit ?_
        refine thenQ.exit ?_
        refine thenQ.exit ?_
        refine blockQ.exit ?_
        refine thenQ.normal ?_
        refine SX.seq ?_
        refine SX.region ?_
        refine SXL.assign rfl ?_
        refine SXL.nil ?_
        refine thenQ.normal ?_
        refine SX.ret ?_
        refine retQ.one (ResAt.tmp rfl) ?_
        exact congrArg Value.bool (decide_eq_true (sp_ext (by simp at c57; omega) (fun i hi => hall i (by omega)) (fun i hi => hall2 i (by omega)))).symm
theorem twin_any (s : Sp) (bo ro : Option Addr) (bc rc : Nat) (hm1 : s.book.length ≤ 1000000) (hm2 : s.reads.length ≤ 1000000) (w : World) (hs : SpAt w s bo ro) :
    CallsR Tryd.prog 38 [.agg ⟨[.int .i64 s.weeks, .int .i64 s.most, .int .i64 s.fall, .int .i64 s.a0, .int .i64 s.a1, .int .i64 s.w0, .int .i64 s.w1, (.slice bo s.book.length bc), (.slice ro s.reads.length rc)]⟩] w (SpR s) := by
  refine CallsR.of_SX (n := 14) (rs := [.cell 2 68]) Tryd.func38 rfl rfl rfl rfl ?_
  show SX _ _ _ ⟨[(0, .agg ⟨[.int .i64 s.weeks, .int .i64 s.most, .int .i64 s.fall, .int .i64 s.a0, .int .i64 s.a1, .int .i64 s.w0, .int .i64 s.w1, (.slice bo s.book.length bc), (.slice ro s.reads.length rc)]⟩)], [], []⟩
  refine SX.seq ?_
  refine SX.region ?_
  refine SXL.box rfl rfl ?_; intro b0
  refine SXL.alloc zp_68 ?_; intro b1
  refine SXL.nil ?_
  refine thenQ.normal ?_
  refine SX.seq ?_
  refine SX.draw 9 (by kernel_rfl) (by kernel_rfl) {} ?_
  refine SXA.take 1 2 rfl (by kernel_rfl) rfl ?_
  refine SXL.fieldAddr fp_68_5 rfl ?_
  refine SXL.load1o 0 sh_65 rfl rfl rfl ?_
  refine SXL.nil ⟨rfl, rfl, rfl, ?_⟩
  refine SXA.take 5 2 rfl (by kernel_rfl) rfl ?_
  refine SXL.fieldAddr fp_68_6 rfl ?_
  refine SXL.load1o 0 sh_66 rfl rfl rfl ?_
  refine SXL.nil ⟨rfl, rfl, rfl, ?_⟩
  refine SXA.all [0, 4] (by kernel_rfl) rfl ⟨⟨?_, rfl⟩, ⟨?_, rfl⟩, trivial⟩
  · refine (show SXL _ _ [_] _ _ from ?_)
    refine SXL.buildSlice0 et_65 ?_; intro b2
    refine SXL.nil (stepQ.mk _ rfl rfl ?_)
    refine SXA.all [3, 4] (by kernel_rfl) rfl ⟨⟨?_, rfl⟩, ⟨?_, rfl⟩, trivial⟩
    · refine (show SXL _ _ [_] _ _ from ?_)
      refine SXL.appendE (some b2) ap_65 rfl rfl (hs.bookSrc _) (bookC_len _) (bookC_one _) ⟨by simp only [maxLen]; omega, by omega⟩ ?_; intro r_6 o_6
      refine SXL.nil (stepQ.mk _ rfl rfl ?_)
      refine SXA.take 8 1 rfl (by kernel_rfl) rfl ?_
      refine SXL.fieldAddr fp_68_5 rfl ?_
      refine SXL.nil ⟨rfl, rfl, rfl, ?_⟩
      refine SXA.all [4] (by kernel_rfl) rfl ⟨⟨?_, rfl⟩, trivial⟩
      refine (show SXL _ _ [_] _ _ from ?_)
      refine SXL.buildSlice0 et_66 ?_; intro b4
      refine SXL.nil (stepQ.mk _ rfl rfl ?_)
      refine SXA.all [7] (by kernel_rfl) rfl ⟨⟨?_, rfl⟩, trivial⟩
      refine (show SXL _ _ [_] _ _ from ?_)
      refine SXL.appendE (some b4) ap_66 rfl rfl (hs.readsSrc _) (readsC_len _) (readsC_one _) ⟨by simp only [maxLen]; omega, by omega⟩ ?_; intro r_10 o_10
      refine SXL.nil (stepQ.mk _ rfl rfl ?_)
      refine SXA.done (by kernel_rfl) ?_
      refine SXL.store 0 sz_65 rfl rfl rfl rfl rfl rfl ?_
      refine SXL.fieldAddr fp_68_6 rfl ?_
      refine SXL.store 0 sz_66 rfl rfl rfl rfl rfl rfl ?_
      refine SXL.nil ?_
      refine thenQ.normal ?_
      refine SX.seq ?_
      refine SX.region ?_
      refine SXL.loadNo 0 sh_68 rfl rfl rfl ?_
      refine SXL.store 1 sz_68 rfl rfl rfl rfl rfl rfl ?_
      refine SXL.nil ?_
      refine thenQ.normal ?_
      refine SX.ret ?_
      refine retQ.sel [3, 5] rfl rfl ?_
      refine retQ.one (ResAt.cellNo 1 sh_68 rfl rfl rfl) ?_
      exact ⟨r_6, r_10, o_6, o_10, rfl, rfl⟩
    · refine (show SXL _ _ [_] _ _ from ?_)
      refine SXL.buildSlice0 et_66 ?_; intro b3
      refine SXL.nil (stepQ.mk _ rfl rfl ?_)
      refine SXA.all [3] (by kernel_rfl) rfl ⟨⟨?_, rfl⟩, trivial⟩
      refine (show SXL _ _ [_] _ _ from ?_)
      refine SXL.appendE (some b2) ap_65 rfl rfl (hs.bookSrc _) (bookC_len _) (bookC_one _) ⟨by simp only [maxLen]; omega, by omega⟩ ?_; intro r_6 o_6
      refine SXL.nil (stepQ.mk _ rfl rfl ?_)
      refine SXA.take 8 1 rfl (by kernel_rfl) rfl ?_
      refine SXL.fieldAddr fp_68_5 rfl ?_
      refine SXL.nil ⟨rfl, rfl, rfl, ?_⟩
      refine SXA.all [7] (by kernel_rfl) rfl ⟨⟨?_, rfl⟩, trivial⟩
      refine (show SXL _ _ [_] _ _ from ?_)
      refine SXL.appendE (some b3) ap_66 rfl rfl (hs.readsSrc _) (readsC_len _) (readsC_one _) ⟨by simp only [maxLen]; omega, by omega⟩ ?_; intro r_10 o_10
      refine SXL.nil (stepQ.mk _ rfl rfl ?_)
      refine SXA.done (by kernel_rfl) ?_
      refine SXL.store 0 sz_65 rfl rfl rfl rfl rfl rfl ?_
      refine SXL.fieldAddr fp_68_6 rfl ?_
      refine SXL.store 0 sz_66 rfl rfl rfl rfl rfl rfl ?_
      refine SXL.nil ?_
      refine thenQ.normal ?_
      refine SX.seq ?_
      refine SX.region ?_
      refine SXL.loadNo 0 sh_68 rfl rfl rfl ?_
      refine SXL.store 1 sz_68 rfl rfl rfl rfl rfl rfl ?_
      refine SXL.nil ?_
      refine thenQ.normal ?_
      refine SX.ret ?_
      refine retQ.sel [4, 5] rfl rfl ?_
      refine retQ.one (ResAt.cellNo 1 sh_68 rfl rfl rfl) ?_
      exact ⟨r_6, r_10, o_6, o_10, rfl, rfl⟩
  · refine (show SXL _ _ [_] _ _ from ?_)
    refine SXL.buildSlice0 et_66 ?_; intro b2
    refine SXL.nil (stepQ.mk _ rfl rfl ?_)
    refine SXA.all [0] (by kernel_rfl) rfl ⟨⟨?_, rfl⟩, trivial⟩
    refine (show SXL _ _ [_] _ _ from ?_)
    refine SXL.buildSlice0 et_65 ?_; intro b3
    refine SXL.nil (stepQ.mk _ rfl rfl ?_)
    refine SXA.all [3] (by kernel_rfl) rfl ⟨⟨?_, rfl⟩, trivial⟩
    refine (show SXL _ _ [_] _ _ from ?_)
    refine SXL.appendE (some b3) ap_65 rfl rfl (hs.bookSrc _) (bookC_len _) (bookC_one _) ⟨by simp only [maxLen]; omega, by omega⟩ ?_; intro r_6 o_6
    refine SXL.nil (stepQ.mk _ rfl rfl ?_)
    refine SXA.take 8 1 rfl (by kernel_rfl) rfl ?_
    refine SXL.fieldAddr fp_68_5 rfl ?_
    refine SXL.nil ⟨rfl, rfl, rfl, ?_⟩
    refine SXA.all [7] (by kernel_rfl) rfl ⟨⟨?_, rfl⟩, trivial⟩
    refine (show SXL _ _ [_] _ _ from ?_)
    refine SXL.appendE (some b2) ap_66 rfl rfl (hs.readsSrc _) (readsC_len _) (readsC_one _) ⟨by simp only [maxLen]; omega, by omega⟩ ?_; intro r_10 o_10
    refine SXL.nil (stepQ.mk _ rfl rfl ?_)
    refine SXA.done (by kernel_rfl) ?_
    refine SXL.store 0 sz_65 rfl rfl rfl rfl rfl rfl ?_
    refine SXL.fieldAddr fp_68_6 rfl ?_
    refine SXL.store 0 sz_66 rfl rfl rfl rfl rfl rfl ?_
    refine SXL.nil ?_
    refine thenQ.normal ?_
    refine SX.seq ?_
    refine SX.region ?_
    refine SXL.loadNo 0 sh_68 rfl rfl rfl ?_
    refine SXL.store 1 sz_68 rfl rfl rfl rfl rfl rfl ?_
    refine SXL.nil ?_
    refine thenQ.normal ?_
    refine SX.ret ?_
    refine retQ.sel [4, 5] rfl rfl ?_
    refine retQ.one (ResAt.cellNo 1 sh_68 rfl rfl rfl) ?_
    exact ⟨r_6, r_10, o_6, o_10, rfl, rfl⟩
end Go.Proofs.YtolcicaclflagaaDoor

/- The walks of the reference of layer 9: supplies that are the same, great, in new memory. -/
namespace Go.Proofs.YtolcicaclflagaaDoor
open Go.X Go.S Go.T Go.RowKit
theorem sameInts9_any (l m : List Int) (lo mo : Option Addr) (lc mc : Nat) (hmx : l.length ≤ 1000000) (w : World) (h1 : RowsAt w lo 1 (ones l)) (h2 : RowsAt w mo 1 (ones m)) :
    CallsR Tryd.prog 20 [.slice lo l.length lc, .slice mo m.length mc] w (fun v _ => v = .bool (decide (l = m))) := by
  refine CallsR.of_SX (n := 8) (rs := [.tmp 4]) Tryd.func20 rfl rfl rfl rfl ?_
  show SX _ _ _ ⟨[(0, .slice lo l.length lc), (1, .slice mo m.length mc)], [], []⟩
  refine SX.seq ?_
  refine SX.region ?_
  refine SXL.assign rfl ?_
  refine SXL.nil ?_
  refine thenQ.normal ?_
  refine SX.seq ?_
  refine SX.region ?_
  refine SXL.move rfl ?_
  refine SXL.move rfl ?_
  refine SXL.call1 (.bool (decide (l = m))) fn_53 rfl (fun w hI => sameInts_any l m lo mo lc mc hmx w (h1.inv hI) (h2.inv hI)) ?_
  refine SXL.assign rfl ?_
  refine SXL.nil ?_
  refine thenQ.normal ?_
  refine SX.ret ?_
  refine retQ.one (ResAt.tmp rfl) ?_
  first | rfl | assumption
set_option maxHeartbeats 2000000 in
theorem same9_any (u v : Su) (fo so go to : Option Addr) (fc sc gc tc : Nat) (fa ga : Nat → FA) (sa ta : Nat → DA) (hl : LitP u) (w : World) (hs : SuAt w u fo so fa sa) (ht : SuAt w v go to ga ta) :
    CallsR Tryd.prog 21 [.agg ⟨[.slice fo u.founts.length fc, .slice so u.streets.length sc]⟩, .agg ⟨[.slice go v.founts.length gc, .slice to v.streets.length tc]⟩] w (fun v_ _ => v_ = .bool (decide (u = v))) := by
  have hL0 := hl.1
  have hL1 := hl.2.1
  have hL2 := hl.2.2
  refine CallsR.of_SX (n := 105) (rs := [.tmp 4]) Tryd.func21 rfl rfl rfl rfl ?_
  show SX _ _ _ ⟨[(0, .agg ⟨[.slice fo u.founts.length fc, .slice so u.streets.length sc]⟩), (1, .agg ⟨[.slice go v.founts.length gc, .slice to v.streets.length tc]⟩)], [], []⟩
  refine SX.seq ?_
  refine SX.region ?_
  refine SXL.box rfl rfl ?_; intro b0
  refine SXL.box rfl rfl ?_; intro b1
  refine SXL.assign rfl ?_
  refine SXL.nil ?_
  refine thenQ.normal ?_
  refine SX.seq ?_
  refine SX.seq ?_
  refine SX.region ?_
  refine SXL.fieldAddr fp_25_0 rfl ?_
  refine SXL.load1o 0 sh_22 rfl rfl rfl ?_
  refine SXL.len is_22 rfl ?_
  refine SXL.fieldAddr fp_25_0 rfl ?_
  refine SXL.load1o 1 sh_22 rfl rfl rfl ?_
  refine SXL.len is_22 rfl ?_
  refine SXL.neqI rfl rfl ?_
  refine SXL.move rfl ?_
  apply SXL.orG 7
  case hl => exact rfl
  case hd => exact rfl
  case hg => exact rfl
  case ht =>
    intro c24
    refine SXL.pass rfl rfl rfl ?_
    refine SXL.pass rfl rfl rfl ?_
    refine SXL.pass rfl rfl rfl ?_
    refine SXL.pass rfl rfl rfl ?_
    refine SXL.pass rfl rfl rfl ?_
    refine SXL.pass rfl rfl rfl ?_
    refine SXL.pass rfl rfl rfl ?_
    exact SXL.nil (segQ.mk (.skip rfl (.skip rfl (.skip rfl (.skip rfl (.skip rfl (.skip rfl (.skip rfl (.skip rfl (EnvSub.refl _))))))))) rfl rfl rfl)
  case hf =>
    intro c24
    refine SXL.fieldAddr fp_25_1 rfl ?_
    refine SXL.load1o 0 sh_23 rfl rfl rfl ?_
    refine SXL.len is_23 rfl ?_
    refine SXL.fieldAddr fp_25_1 rfl ?_
    refine SXL.load1o 1 sh_23 rfl rfl rfl ?_
    refine SXL.len is_23 rfl ?_
    refine SXL.neqI rfl rfl ?_
    exact SXL.nil (segQ.mk (.skip rfl (.skip rfl (.skip rfl (.skip rfl (.skip rfl (.skip rfl (.skip rfl (.skip rfl (EnvSub.refl _))))))))) rfl rfl ⟨rfl, rfl⟩)
  refine SXL.nil ?_
  refine thenQ.normal ?_
  refine SX.condP rfl (fun c24 => ?_) (fun c24 => ?_)
  · refine SX.seq ?_
    refine SX.region ?_
    refine SXL.assign rfl ?_
    refine SXL.nil ?_
    refine thenQ.normal ?_
    refine SX.ret ?_
    refine thenQ.ret ?_
    refine retQ.one (ResAt.tmp rfl) ?_
    exact congrArg Value.bool (decide_eq_false (by intro h; subst h; omega)).symm
  · refine SX.skip ?_
    refine thenQ.normal ?_
    refine SX.seq ?_
    refine SX.seq ?_
    refine SX.region ?_
    refine SXL.assign rfl ?_
    refine SXL.nil ?_
    refine thenQ.normal ?_
    refine SX.block ?_
    refine SX.loopG (α := Nat) [2, 3, 4] rfl (fun k => [(5, .int .i64 ((k : Int)))]) (fun k => []) (fun k => k ≤ u.founts.length ∧ ∀ i, i < k → (u.founts.getD i default).id = (v.founts.getD i default).id ∧ (u.founts.getD i default).sp = (v.founts.getD i default).sp) (fun k => u.founts.length - k) 0 ⟨Nat.zero_le _, fun _ h => absurd h (Nat.not_lt_zero _)⟩ ⟨rfl, trivial⟩ rfl ?_
    rintro k ⟨hk, hall⟩
    refine SX.seq ?_
    refine SX.seq ?_
    refine SX.region ?_
    refine SXL.move rfl ?_
    refine SXL.fieldAddr fp_25_0 rfl ?_
    refine SXL.load1o 0 sh_22 rfl rfl rfl ?_
    refine SXL.len is_22 rfl ?_
    refine SXL.lss rfl rfl ?_
    refine SXL.nil ?_
    refine thenQ.normal ?_
    refine SX.condP rfl (fun c29 => ?_) (fun c29 => ?_)
    · refine SX.skip ?_
      refine thenQ.normal ?_
      refine SX.seq ?_
      refine SX.block ?_
      refine SX.seq ?_
      obtain ⟨b, o, ha, hm⟩ := hs.fount (i := k) (by omega)
      obtain ⟨b2, o2, ha2, hn⟩ := ht.fount (i := k) (by omega)
      have hLk := hL1 k (by omega)
      refine SX.draw 29 (by kernel_rfl) (by kernel_rfl) {} ?_
      refine SXA.take 0 29 rfl (by kernel_rfl) rfl ?_
      refine SXL.fieldAddr fp_25_0 rfl ?_
      refine SXL.load1o 0 sh_22 rfl rfl rfl ?_
      refine SXL.move rfl ?_
      refine SXL.indexR el_22 rfl rfl ha (by omega) ?_
      refine SXL.fieldAddr fp_70_0 rfl ?_
      refine SXL.load1 sh_3 rfl ((hm _).sub (j := 0) (k := 1) rfl) ?_
      refine SXL.fieldAddr fp_25_0 rfl ?_
      refine SXL.load1o 1 sh_22 rfl rfl rfl ?_
      refine SXL.move rfl ?_
      refine SXL.indexR el_22 rfl rfl ha2 (by omega) ?_
      refine SXL.fieldAddr fp_70_0 rfl ?_
      refine SXL.load1 sh_3 rfl ((hn _).sub (j := 0) (k := 1) rfl) ?_
      refine SXL.neqI rfl rfl ?_
      refine SXL.move rfl ?_
      apply SXL.orG 14
      case hl => exact rfl
      case hd => exact rfl
      case hg => exact rfl
      case ht =>
        intro c60
        refine SXL.pass rfl rfl rfl ?_
        refine SXL.pass rfl rfl rfl ?_
        refine SXL.pass rfl rfl rfl ?_
        refine SXL.pass rfl rfl rfl ?_
        refine SXL.pass rfl rfl rfl ?_
        refine SXL.pass rfl rfl rfl ?_
        refine SXL.pass rfl rfl rfl ?_
        refine SXL.pass rfl rfl rfl ?_
        refine SXL.pass rfl rfl rfl ?_
        refine SXL.pass rfl rfl rfl ?_
        refine SXL.pass rfl rfl rfl ?_
        refine SXL.pass rfl rfl rfl ?_
        refine SXL.pass rfl rfl rfl ?_
        refine SXL.pass rfl rfl rfl ?_
        exact SXL.nil (segQ.mk (.skip rfl (.skip rfl (.skip rfl (.skip rfl (.skip rfl (.skip rfl (.skip rfl (.skip rfl (.skip rfl (.skip rfl (.skip rfl (.skip rfl (.skip rfl (.skip rfl (.skip rfl (EnvSub.refl _)))))))))))))))) rfl rfl rfl)
      case hf =>
        intro c60
        refine SXL.fieldAddr fp_25_0 rfl ?_
        refine SXL.load1o 0 sh_22 rfl rfl rfl ?_
        refine SXL.move rfl ?_
        refine SXL.indexR el_22 rfl rfl ha (by omega) ?_
        refine SXL.fieldAddr fp_70_1 rfl ?_
        refine SXL.loadN sh_68 rfl ((hm _).sub (j := 1) (k := 9) rfl) rfl ?_
        refine SXL.fieldAddr fp_25_0 rfl ?_
        refine SXL.load1o 1 sh_22 rfl rfl rfl ?_
        refine SXL.move rfl ?_
        refine SXL.indexR el_22 rfl rfl ha2 (by omega) ?_
        refine SXL.fieldAddr fp_70_1 rfl ?_
        refine SXL.loadN sh_68 rfl ((hn _).sub (j := 1) (k := 9) rfl) rfl ?_
        refine SXL.call1 (.bool (decide ((u.founts.getD k default).sp = (v.founts.getD k default).sp))) fn_54 rfl (fun w hI => same_any (u.founts.getD k default).sp (v.founts.getD k default).sp (fa k).bo (fa k).ro (ga k).bo (ga k).ro (fa k).bc (fa k).rc (ga k).bc (ga k).rc (by omega) (by omega) w ((hs.springs k (by omega)).inv hI) ((ht.springs k (by omega)).inv hI)) ?_
        refine SXL.not rfl ?_
        exact SXL.nil (segQ.mk (.skip rfl (.skip rfl (.skip rfl (.skip rfl (.skip rfl (.skip rfl (.skip rfl (.skip rfl (.skip rfl (.skip rfl (.skip rfl (.skip rfl (.skip rfl (.skip rfl (.skip rfl (EnvSub.refl _)))))))))))))))) rfl rfl ⟨rfl, rfl⟩)
      refine SXL.nil ⟨rfl, rfl, rfl, ?_⟩
      refine SXA.done (by kernel_rfl) ?_
      refine SXL.nil ?_
      refine thenQ.normal ?_
      refine SX.condP rfl (fun c60 => ?_) (fun c60 => ?_)
      · refine SX.seq ?_
        refine SX.region ?_
        refine SXL.assign rfl ?_
        refine SXL.nil ?_
        refine thenQ.normal ?_
        refine SX.ret ?_
        refine blockQ.ret ?_
        refine thenQ.ret ?_
        refine thenQ.ret ?_
        refine blockQ.ret ?_
        refine thenQ.ret ?_
        refine retQ.one (ResAt.tmp rfl) ?_
        exact congrArg Value.bool (decide_eq_false (by intro h; subst h; rcases c60 with c | c; exact c rfl; exact c rfl)).symm
      · refine SX.skip ?_
        refine blockQ.normal ?_
        refine thenQ.normal ?_
        refine SX.region ?_
        refine SXL.move rfl ?_
        refine SXL.add rfl rfl (by omega) ?_
        refine SXL.assign rfl ?_
        refine SXL.nil ?_
        refine thenQ.normal ?_
        refine ⟨k + 1, Meets.mk _ ⟨rfl, trivial⟩ ⟨rfl, rfl, rfl, trivial⟩ rfl, ?_, (by omega)⟩
        refine ⟨by omega, fun i hi => ?_⟩
        by_cases e : i = k
        · subst e; obtain ⟨c1, c2⟩ := not_or.1 c60
          exact ⟨Decidable.not_not.1 c1, Decidable.not_not.1 c2⟩
        · exact hall i (by omega)
    · refine SX.exit ?_
      refine thenQ.exit ?_
      refine thenQ.exit ?_
      refine blockQ.exit ?_
      refine thenQ.normal ?_
      refine SX.seq ?_
      refine SX.seq ?_
      have hlen := not_or.1 c24
      refine SX.region ?_
      refine SXL.assign rfl ?_
      refine SXL.nil ?_
      refine thenQ.normal ?_
      refine SX.block ?_
      refine SX.loopG (α := Nat) [2, 3, 4] rfl (fun k => [(6, .int .i64 ((k : Int)))]) (fun k => []) (fun k => k ≤ u.streets.length ∧ ∀ i, i < k → u.streets.getD i default = v.streets.getD i default) (fun k => u.streets.length - k) 0 ⟨Nat.zero_le _, fun _ h => absurd h (Nat.not_lt_zero _)⟩ ⟨rfl, trivial⟩ rfl ?_
      rintro k ⟨hk2, hall2⟩
      refine SX.seq ?_
      refine SX.seq ?_
      refine SX.region ?_
      refine SXL.move rfl ?_
      refine SXL.fieldAddr fp_25_1 rfl ?_
      refine SXL.load1o 0 sh_23 rfl rfl rfl ?_
      refine SXL.len is_23 rfl ?_
      refine SXL.lss rfl rfl ?_
      refine SXL.nil ?_
      refine thenQ.normal ?_
      refine SX.condP rfl (fun c65 => ?_) (fun c65 => ?_)
      · refine SX.skip ?_
        refine thenQ.normal ?_
        refine SX.seq ?_
        refine SX.block ?_
        refine SX.seq ?_
        obtain ⟨b, o, ha, hm⟩ := hs.street (i := k) (by omega)
        obtain ⟨b2, o2, ha2, hn⟩ := ht.street (i := k) (by omega)
        have hLk := hL2 k (by omega)
        refine SX.draw 14 (by kernel_rfl) (by kernel_rfl) ⟨[5, 6, 7, 8, 9, 13], [true, true, false, false]⟩ ?_
        refine SXA.take 0 5 rfl (by kernel_rfl) rfl ?_
        refine SXL.fieldAddr fp_25_1 rfl ?_
        refine SXL.load1o 0 sh_23 rfl rfl rfl ?_
        refine SXL.move rfl ?_
        refine SXL.indexR el_23 rfl rfl ha (by omega) ?_
        refine SXL.loadN sh_73 rfl (hm _) rfl ?_
        refine SXL.nil ⟨rfl, rfl, rfl, ?_⟩
        refine SXA.takeM 5 5 rfl (by kernel_rfl) rfl ?_
        refine SXL.fieldAddr fp_25_1 rfl ?_
        refine SXL.load1o 1 sh_23 rfl rfl rfl ?_
        refine SXL.move rfl ?_
        refine SXL.indexR el_23 rfl rfl ha2 (by omega) ?_
        refine SXL.loadN sh_73 rfl (hn _) rfl ?_
        refine SXL.nil ⟨rfl, rfl, rfl, ?_⟩
        refine SXA.all [10, 11] (by kernel_rfl) rfl ⟨⟨?_, rfl⟩, ⟨?_, rfl⟩, trivial⟩
        · refine (show SXL _ _ [_] _ _ from ?_)
          refine SXL.alloc zp_73 ?_; intro b2
          refine SXL.nil (stepQ.mk _ rfl rfl ?_)
          refine SXA.all [11] (by kernel_rfl) rfl ⟨⟨?_, rfl⟩, trivial⟩
          refine (show SXL _ _ [_] _ _ from ?_)
          refine SXL.alloc zp_73 ?_; intro b3
          refine SXL.nil (stepQ.mk _ rfl rfl ?_)
          refine SXA.all [12] (by kernel_rfl) rfl ⟨⟨?_, rfl⟩, trivial⟩
          refine (show SXL _ _ [_] _ _ from ?_)
          refine SXL.store 2 sz_73 rfl rfl rfl rfl rfl rfl ?_
          refine SXL.nil (stepQ.mkL _ (by kernel_rfl) rfl rfl ?_)
          refine SXA.all [13] (by kernel_rfl) rfl ⟨⟨?_, rfl⟩, trivial⟩
          refine (show SXL _ _ [_] _ _ from ?_)
          refine SXL.store 3 sz_73 rfl rfl rfl rfl rfl rfl ?_
          refine SXL.nil (stepQ.mkL _ (by kernel_rfl) rfl rfl ?_)
          refine SXA.done (by kernel_rfl) ?_
          refine SXL.nil ?_
          refine thenQ.normal ?_
          refine SX.seq ?_
          refine SX.region ?_
          refine SXL.fieldAddr fp_73_0 rfl ?_
          refine SXL.load1o 2 sh_3 rfl rfl rfl ?_
          refine SXL.fieldAddr fp_73_0 rfl ?_
          refine SXL.load1o 3 sh_3 rfl rfl rfl ?_
          refine SXL.neqI rfl rfl ?_
          refine SXL.move rfl ?_
          apply SXL.orG 5
          case hl => exact rfl
          case hd => exact rfl
          case hg => exact rfl
          case ht =>
            intro g7
            refine SXL.pass rfl rfl rfl ?_
            refine SXL.pass rfl rfl rfl ?_
            refine SXL.pass rfl rfl rfl ?_
            refine SXL.pass rfl rfl rfl ?_
            refine SXL.pass rfl rfl rfl ?_
            exact SXL.nil (segQ.mk (.skip rfl (.skip rfl (.skip rfl (.skip rfl (.skip rfl (.skip rfl (EnvSub.refl _))))))) rfl rfl rfl)
          case hf =>
            intro g7
            refine SXL.fieldAddr fp_73_1 rfl ?_
            refine SXL.loadNo 2 sh_55 rfl rfl rfl ?_
            refine SXL.fieldAddr fp_73_1 rfl ?_
            refine SXL.loadNo 3 sh_55 rfl rfl rfl ?_
            refine SXL.neqV (p := [(u.streets.getD k default).n0, (u.streets.getD k default).n1] ≠ [(v.streets.getD k default).n0, (v.streets.getD k default).n1]) (u := .agg ⟨ints ([(u.streets.getD k default).n0, (u.streets.getD k default).n1])⟩) (v := .agg ⟨ints ([(v.streets.getD k default).n0, (v.streets.getD k default).n1])⟩) rfl rfl (run_neq_ints eq_55 eg_55 sh_55 rfl rfl) ?_
            exact SXL.nil (segQ.mk (.skip rfl (.skip rfl (.skip rfl (.skip rfl (.skip rfl (.skip rfl (EnvSub.refl _))))))) rfl rfl ⟨rfl, rfl⟩)
          refine SXL.move rfl ?_
          apply SXL.orG 5
          case hl => exact rfl
          case hd => exact rfl
          case hg => exact rfl
          case ht =>
            intro g8
            refine SXL.pass rfl rfl rfl ?_
            refine SXL.pass rfl rfl rfl ?_
            refine SXL.pass rfl rfl rfl ?_
            refine SXL.pass rfl rfl rfl ?_
            refine SXL.pass rfl rfl rfl ?_
            exact SXL.nil (segQ.mk (.skip rfl (.skip rfl (.skip rfl (.skip rfl (.skip rfl (.skip rfl (EnvSub.refl _))))))) rfl rfl rfl)
          case hf =>
            intro g8
            refine SXL.fieldAddr fp_73_2 rfl ?_
            refine SXL.load1o 2 sh_3 rfl rfl rfl ?_
            refine SXL.fieldAddr fp_73_2 rfl ?_
            refine SXL.load1o 3 sh_3 rfl rfl rfl ?_
            refine SXL.neqI rfl rfl ?_
            exact SXL.nil (segQ.mk (.skip rfl (.skip rfl (.skip rfl (.skip rfl (.skip rfl (.skip rfl (EnvSub.refl _))))))) rfl rfl ⟨rfl, rfl⟩)
          refine SXL.move rfl ?_
          apply SXL.orG 6
          case hl => exact rfl
          case hd => exact rfl
          case hg => exact rfl
          case ht =>
            intro c104
            refine SXL.pass rfl rfl rfl ?_
            refine SXL.pass rfl rfl rfl ?_
            refine SXL.pass rfl rfl rfl ?_
            refine SXL.pass rfl rfl rfl ?_
            refine SXL.pass rfl rfl rfl ?_
            refine SXL.pass rfl rfl rfl ?_
            exact SXL.nil (segQ.mk (.skip rfl (.skip rfl (.skip rfl (.skip rfl (.skip rfl (.skip rfl (.skip rfl (EnvSub.refl _)))))))) rfl rfl rfl)
          case hf =>
            intro c104
            refine SXL.fieldAddr fp_73_3 rfl ?_
            refine SXL.load1o 2 sh_33 rfl rfl rfl ?_
            refine SXL.fieldAddr fp_73_3 rfl ?_
            refine SXL.load1o 3 sh_33 rfl rfl rfl ?_
            refine SXL.call1 (.bool (decide ((u.streets.getD k default).draws = (v.streets.getD k default).draws))) fn_53 rfl (fun w hI => sameInts_any (u.streets.getD k default).draws (v.streets.getD k default).draws (sa k).1 (ta k).1 (sa k).2 (ta k).2 (by omega) w ((hs.draws k (by omega)).inv hI) ((ht.draws k (by omega)).inv hI)) ?_
            refine SXL.not rfl ?_
            exact SXL.nil (segQ.mk (.skip rfl (.skip rfl (.skip rfl (.skip rfl (.skip rfl (.skip rfl (.skip rfl (EnvSub.refl _)))))))) rfl rfl ⟨rfl, rfl⟩)
          refine SXL.nil ?_
          refine thenQ.normal ?_
          refine SX.condP rfl (fun c104 => ?_) (fun c104 => ?_)
          · refine SX.seq ?_
            refine SX.region ?_
            refine SXL.assign rfl ?_
            refine SXL.nil ?_
            refine thenQ.normal ?_
            refine SX.ret ?_
            refine blockQ.ret ?_
            refine thenQ.ret ?_
            refine thenQ.ret ?_
            refine blockQ.ret ?_
            refine thenQ.ret ?_
            refine retQ.one (ResAt.tmp rfl) ?_
            exact congrArg Value.bool (decide_eq_false (by intro h; subst h; rcases c104 with ((c | c) | c) | c; all_goals exact c rfl)).symm
          · refine SX.skip ?_
            refine blockQ.normal ?_
            refine thenQ.normal ?_
            refine SX.region ?_
            refine SXL.move rfl ?_
            refine SXL.add rfl rfl (by omega) ?_
            refine SXL.assign rfl ?_
            refine SXL.nil ?_
            refine thenQ.normal ?_
            refine ⟨k + 1, Meets.mk _ ⟨rfl, trivial⟩ ⟨rfl, rfl, rfl, trivial⟩ rfl, ?_, (by omega)⟩
            refine ⟨by omega, fun i hi => ?_⟩
            by_cases e : i = k
            · subst e
              obtain ⟨c4, c1⟩ := not_or.1 c104
              obtain ⟨c4, c2⟩ := not_or.1 c4
              obtain ⟨c4, c3⟩ := not_or.1 c4
              exact sr_ext (Decidable.not_not.1 c4) (Decidable.not_not.1 c3) (Decidable.not_not.1 c2) (Decidable.not_not.1 c1)
            · exact hall2 i (by omega)
        · refine (show SXL _ _ [_] _ _ from ?_)
          refine SXL.alloc zp_73 ?_; intro b2
          refine SXL.nil (stepQ.mk _ rfl rfl ?_)
          refine SXA.all [10] (by kernel_rfl) rfl ⟨⟨?_, rfl⟩, trivial⟩
          refine (show SXL _ _ [_] _ _ from ?_)
          refine SXL.alloc zp_73 ?_; intro b3
          refine SXL.nil (stepQ.mk _ rfl rfl ?_)
          refine SXA.all [12] (by kernel_rfl) rfl ⟨⟨?_, rfl⟩, trivial⟩
          refine (show SXL _ _ [_] _ _ from ?_)
          refine SXL.store 3 sz_73 rfl rfl rfl rfl rfl rfl ?_
          refine SXL.nil (stepQ.mkL _ (by kernel_rfl) rfl rfl ?_)
          refine SXA.all [13] (by kernel_rfl) rfl ⟨⟨?_, rfl⟩, trivial⟩
          refine (show SXL _ _ [_] _ _ from ?_)
          refine SXL.store 2 sz_73 rfl rfl rfl rfl rfl rfl ?_
          refine SXL.nil (stepQ.mkL _ (by kernel_rfl) rfl rfl ?_)
          refine SXA.done (by kernel_rfl) ?_
          refine SXL.nil ?_
          refine thenQ.normal ?_
          refine SX.seq ?_
          refine SX.region ?_
          refine SXL.fieldAddr fp_73_0 rfl ?_
          refine SXL.load1o 3 sh_3 rfl rfl rfl ?_
          refine SXL.fieldAddr fp_73_0 rfl ?_
          refine SXL.load1o 2 sh_3 rfl rfl rfl ?_
          refine SXL.neqI rfl rfl ?_
          refine SXL.move rfl ?_
          apply SXL.orG 5
          case hl => exact rfl
          case hd => exact rfl
          case hg => exact rfl
          case ht =>
            intro g11
            refine SXL.pass rfl rfl rfl ?_
            refine SXL.pass rfl rfl rfl ?_
            refine SXL.pass rfl rfl rfl ?_
            refine SXL.pass rfl rfl rfl ?_
            refine SXL.pass rfl rfl rfl ?_
            exact SXL.nil (segQ.mk (.skip rfl (.skip rfl (.skip rfl (.skip rfl (.skip rfl (.skip rfl (EnvSub.refl _))))))) rfl rfl rfl)
          case hf =>
            intro g11
            refine SXL.fieldAddr fp_73_1 rfl ?_
            refine SXL.loadNo 3 sh_55 rfl rfl rfl ?_
            refine SXL.fieldAddr fp_73_1 rfl ?_
            refine SXL.loadNo 2 sh_55 rfl rfl rfl ?_
            refine SXL.neqV (p := [(u.streets.getD k default).n0, (u.streets.getD k default).n1] ≠ [(v.streets.getD k default).n0, (v.streets.getD k default).n1]) (u := .agg ⟨ints ([(u.streets.getD k default).n0, (u.streets.getD k default).n1])⟩) (v := .agg ⟨ints ([(v.streets.getD k default).n0, (v.streets.getD k default).n1])⟩) rfl rfl (run_neq_ints eq_55 eg_55 sh_55 rfl rfl) ?_
            exact SXL.nil (segQ.mk (.skip rfl (.skip rfl (.skip rfl (.skip rfl (.skip rfl (.skip rfl (EnvSub.refl _))))))) rfl rfl ⟨rfl, rfl⟩)
          refine SXL.move rfl ?_
          apply SXL.orG 5
          case hl => exact rfl
          case hd => exact rfl
          case hg => exact rfl
          case ht =>
            intro g12
            refine SXL.pass rfl rfl rfl ?_
            refine SXL.pass rfl rfl rfl ?_
            refine SXL.pass rfl rfl rfl ?_
            refine SXL.pass rfl rfl rfl ?_
            refine SXL.pass rfl rfl rfl ?_
            exact SXL.nil (segQ.mk (.skip rfl (.skip rfl (.skip rfl (.skip rfl (.skip rfl (.skip rfl (EnvSub.refl _))))))) rfl rfl rfl)
          case hf =>
            intro g12
            refine SXL.fieldAddr fp_73_2 rfl ?_
            refine SXL.load1o 3 sh_3 rfl rfl rfl ?_
            refine SXL.fieldAddr fp_73_2 rfl ?_
            refine SXL.load1o 2 sh_3 rfl rfl rfl ?_
            refine SXL.neqI rfl rfl ?_
            exact SXL.nil (segQ.mk (.skip rfl (.skip rfl (.skip rfl (.skip rfl (.skip rfl (.skip rfl (EnvSub.refl _))))))) rfl rfl ⟨rfl, rfl⟩)
          refine SXL.move rfl ?_
          apply SXL.orG 6
          case hl => exact rfl
          case hd => exact rfl
          case hg => exact rfl
          case ht =>
            intro c104
            refine SXL.pass rfl rfl rfl ?_
            refine SXL.pass rfl rfl rfl ?_
            refine SXL.pass rfl rfl rfl ?_
            refine SXL.pass rfl rfl rfl ?_
            refine SXL.pass rfl rfl rfl ?_
            refine SXL.pass rfl rfl rfl ?_
            exact SXL.nil (segQ.mk (.skip rfl (.skip rfl (.skip rfl (.skip rfl (.skip rfl (.skip rfl (.skip rfl (EnvSub.refl _)))))))) rfl rfl rfl)
          case hf =>
            intro c104
            refine SXL.fieldAddr fp_73_3 rfl ?_
            refine SXL.load1o 3 sh_33 rfl rfl rfl ?_
            refine SXL.fieldAddr fp_73_3 rfl ?_
            refine SXL.load1o 2 sh_33 rfl rfl rfl ?_
            refine SXL.call1 (.bool (decide ((u.streets.getD k default).draws = (v.streets.getD k default).draws))) fn_53 rfl (fun w hI => sameInts_any (u.streets.getD k default).draws (v.streets.getD k default).draws (sa k).1 (ta k).1 (sa k).2 (ta k).2 (by omega) w ((hs.draws k (by omega)).inv hI) ((ht.draws k (by omega)).inv hI)) ?_
            refine SXL.not rfl ?_
            exact SXL.nil (segQ.mk (.skip rfl (.skip rfl (.skip rfl (.skip rfl (.skip rfl (.skip rfl (.skip rfl (EnvSub.refl _)))))))) rfl rfl ⟨rfl, rfl⟩)
          refine SXL.nil ?_
          refine thenQ.normal ?_
          refine SX.condP rfl (fun c104 => ?_) (fun c104 => ?_)
          · refine SX.seq ?_
            refine SX.region ?_
            refine SXL.assign rfl ?_
            refine SXL.nil ?_
            refine thenQ.normal ?_
            refine SX.ret ?_
            refine blockQ.ret ?_
            refine thenQ.ret ?_
            refine thenQ.ret ?_
            refine blockQ.ret ?_
            refine thenQ.ret ?_
            refine retQ.one (ResAt.tmp rfl) ?_
            exact congrArg Value.bool (decide_eq_false (by intro h; subst h; rcases c104 with ((c | c) | c) | c; all_goals exact c rfl)).symm
          · refine SX.skip ?_
            refine blockQ.normal ?_
            refine thenQ.normal ?_
            refine SX.region ?_
            refine SXL.move rfl ?_
            refine SXL.add rfl rfl (by omega) ?_
            refine SXL.assign rfl ?_
            refine SXL.nil ?_
            refine thenQ.normal ?_
            refine ⟨k + 1, Meets.mk _ ⟨rfl, trivial⟩ ⟨rfl, rfl, rfl, trivial⟩ rfl, ?_, (by omega)⟩
            refine ⟨by omega, fun i hi => ?_⟩
            by_cases e : i = k
            · subst e
              obtain ⟨c4, c1⟩ := not_or.1 c104
              obtain ⟨c4, c2⟩ := not_or.1 c4
              obtain ⟨c4, c3⟩ := not_or.1 c4
              exact sr_ext (Decidable.not_not.1 c4) (Decidable.not_not.1 c3) (Decidable.not_not.1 c2) (Decidable.not_not.1 c1)
            · exact hall2 i (by omega)
      · refine SX.exit ?_
        refine thenQ.exit ?_
        refine thenQ.exit ?_
        refine blockQ.exit ?_
        refine thenQ.normal ?_
        refine SX.seq ?_
        refine SX.region ?_
        refine SXL.assign rfl ?_
        refine SXL.nil ?_
        refine thenQ.normal ?_
        refine SX.ret ?_
        refine retQ.one (ResAt.tmp rfl) ?_
        exact congrArg Value.bool (decide_eq_true (su_ext (by omega) (by omega) (fun i hi => hall i (by omega)) (fun i hi => hall2 i (by omega)))).symm
theorem great9_any (u : Su) (fo so : Option Addr) (fc sc : Nat) (fa : Nat → FA) (sa : Nat → DA) (w : World) (hs : SuAt w u fo so fa sa) :
    CallsR Tryd.prog 6 [.agg ⟨[.slice fo u.founts.length fc, .slice so u.streets.length sc]⟩] w (fun v _ => v = .bool (decide (¬LitP u))) := by
  refine CallsR.of_SX (n := 40) (rs := [.tmp 2]) Tryd.func6 rfl rfl rfl rfl ?_
  show SX _ _ _ ⟨[(0, .agg ⟨[.slice fo u.founts.length fc, .slice so u.streets.length sc]⟩)], [], []⟩
  refine SX.seq ?_
  refine SX.region ?_
  refine SXL.box rfl rfl ?_; intro b0
  refine SXL.assign rfl ?_
  refine SXL.nil ?_
  refine thenQ.normal ?_
  refine SX.seq ?_
  refine SX.seq ?_
  refine SX.region ?_
  refine SXL.fieldAddr fp_25_0 rfl ?_
  refine SXL.load1o 0 sh_22 rfl rfl rfl ?_
  refine SXL.len is_22 rfl ?_
  refine SXL.gtr rfl rfl ?_
  refine SXL.move rfl ?_
  apply SXL.orG 4
  case hl => exact rfl
  case hd => exact rfl
  case hg => exact rfl
  case ht =>
    intro c16
    refine SXL.pass rfl rfl rfl ?_
    refine SXL.pass rfl rfl rfl ?_
    refine SXL.pass rfl rfl rfl ?_
    refine SXL.pass rfl rfl rfl ?_
    exact SXL.nil (segQ.mk (.skip rfl (.skip rfl (.skip rfl (.skip rfl (.skip rfl (EnvSub.refl _)))))) rfl rfl rfl)
  case hf =>
    intro c16
    refine SXL.fieldAddr fp_25_1 rfl ?_
    refine SXL.load1o 0 sh_23 rfl rfl rfl ?_
    refine SXL.len is_23 rfl ?_
    refine SXL.gtr rfl rfl ?_
    exact SXL.nil (segQ.mk (.skip rfl (.skip rfl (.skip rfl (.skip rfl (.skip rfl (EnvSub.refl _)))))) rfl rfl ⟨rfl, rfl⟩)
  refine SXL.nil ?_
  refine thenQ.normal ?_
  refine SX.condP rfl (fun c16 => ?_) (fun c16 => ?_)
  · refine SX.seq ?_
    refine SX.region ?_
    refine SXL.assign rfl ?_
    refine SXL.nil ?_
    refine thenQ.normal ?_
    refine SX.ret ?_
    refine thenQ.ret ?_
    refine retQ.one (ResAt.tmp rfl) ?_
    exact congrArg Value.bool (decide_eq_true (p := ¬LitP u) ((fun h => by have := h.1; omega))).symm
  · refine SX.skip ?_
    refine thenQ.normal ?_
    refine SX.seq ?_
    refine SX.seq ?_
    refine SX.region ?_
    refine SXL.fieldAddr fp_25_0 rfl ?_
    refine SXL.load1o 0 sh_22 rfl rfl rfl ?_
    refine SXL.len is_22 rfl ?_
    refine SXL.move rfl ?_
    refine SXL.nil ?_
    refine thenQ.normal ?_
    refine SX.block ?_
    refine SX.loopG (α := Nat) [1, 2, 18, 19] rfl (fun k => [(20, .int .i64 ((k : Int)))]) (fun k => []) (fun k => k ≤ u.founts.length ∧ ∀ i, i < k → (u.founts.getD i default).sp.book.length ≤ 30 ∧ (u.founts.getD i default).sp.reads.length ≤ 30) (fun k => u.founts.length - k) 0 ⟨Nat.zero_le _, fun _ h => absurd h (Nat.not_lt_zero _)⟩ ⟨rfl, trivial⟩ rfl ?_
    rintro k ⟨hk, hall⟩
    refine SX.seq ?_
    refine SX.region ?_
    refine SXL.lss rfl rfl ?_
    refine SXL.nil ?_
    refine thenQ.normal ?_
    refine SX.seq ?_
    refine SX.condP rfl (fun c21 => ?_) (fun c21 => ?_)
    · refine SX.skip ?_
      refine thenQ.normal ?_
      refine SX.seq ?_
      refine SX.block ?_
      refine SX.seq ?_
      obtain ⟨b, o, ha, hm⟩ := hs.fount (i := k) (by omega)
      refine SX.region ?_
      refine SXL.indexR el_22 rfl rfl ha (by omega) ?_
      refine SXL.loadN sh_70 rfl (hm _) rfl ?_
      refine SXL.alloc zp_70 ?_; intro b1
      refine SXL.store 1 sz_70 rfl rfl rfl rfl rfl rfl ?_
      refine SXL.nil ?_
      refine thenQ.normal ?_
      refine SX.seq ?_
      refine SX.region ?_
      refine SXL.fieldAddr fp_70_1 rfl ?_
      refine SXL.loadNo 1 sh_68 rfl rfl rfl ?_
      refine SXL.call1 (.bool (decide ((30 : Int) < ((u.founts.getD k default).sp.book.length : Int) ∨ (30 : Int) < ((u.founts.getD k default).sp.reads.length : Int)))) fn_37 rfl (fun w hI => great_any (u.founts.getD k default).sp (fa k).bo (fa k).ro (fa k).bc (fa k).rc _) ?_
      refine SXL.nil ?_
      refine thenQ.normal ?_
      refine SX.condP rfl (fun c26 => ?_) (fun c26 => ?_)
      · refine SX.seq ?_
        refine SX.region ?_
        refine SXL.assign rfl ?_
        refine SXL.nil ?_
        refine thenQ.normal ?_
        refine SX.ret ?_
        refine blockQ.ret ?_
        refine thenQ.ret ?_
        refine thenQ.ret ?_
        refine blockQ.ret ?_
        refine thenQ.ret ?_
        refine retQ.one (ResAt.tmp rfl) ?_
        exact congrArg Value.bool (decide_eq_true (p := ¬LitP u) ((fun h => by have := h.2.1 k (by omega); omega))).symm
      · refine SX.skip ?_
        refine blockQ.normal ?_
        refine thenQ.normal ?_
        refine SX.region ?_
        refine SXL.add rfl rfl (by omega) ?_
        refine SXL.move rfl ?_
        refine SXL.nil ?_
        refine thenQ.normal ?_
        refine ⟨k + 1, Meets.mk _ ⟨rfl, trivial⟩ ⟨rfl, rfl, rfl, rfl, trivial⟩ rfl, ?_, (by omega)⟩
        refine ⟨by omega, fun i hi => ?_⟩
        by_cases e : i = k
        · subst e; omega
        · exact hall i (by omega)
    · refine SX.exit ?_
      refine thenQ.exit ?_
      refine thenQ.exit ?_
      refine blockQ.exit ?_
      refine thenQ.normal ?_
      refine SX.seq ?_
      refine SX.seq ?_
      refine SX.region ?_
      refine SXL.fieldAddr fp_25_1 rfl ?_
      refine SXL.load1o 0 sh_23 rfl rfl rfl ?_
      refine SXL.len is_23 rfl ?_
      refine SXL.move rfl ?_
      refine SXL.nil ?_
      refine thenQ.normal ?_
      refine SX.block ?_
      refine SX.loopG (α := Nat) [2, 29, 30] rfl (fun k => [(31, .int .i64 ((k : Int)))]) (fun k => []) (fun k => k ≤ u.streets.length ∧ ∀ i, i < k → (u.streets.getD i default).draws.length ≤ 20) (fun k => u.streets.length - k) 0 ⟨Nat.zero_le _, fun _ h => absurd h (Nat.not_lt_zero _)⟩ ⟨rfl, trivial⟩ rfl ?_
      rintro k ⟨hk2, hall2⟩
      refine SX.seq ?_
      refine SX.region ?_
      refine SXL.lss rfl rfl ?_
      refine SXL.nil ?_
      refine thenQ.normal ?_
      refine SX.seq ?_
      refine SX.condP rfl (fun c32 => ?_) (fun c32 => ?_)
      · refine SX.skip ?_
        refine thenQ.normal ?_
        refine SX.seq ?_
        refine SX.block ?_
        refine SX.seq ?_
        obtain ⟨b, o, ha, hm⟩ := hs.street (i := k) (by omega)
        refine SX.region ?_
        refine SXL.indexR el_23 rfl rfl ha (by omega) ?_
        refine SXL.loadN sh_73 rfl (hm _) rfl ?_
        refine SXL.alloc zp_73 ?_; intro b1
        refine SXL.store 1 sz_73 rfl rfl rfl rfl rfl rfl ?_
        refine SXL.nil ?_
        refine thenQ.normal ?_
        refine SX.seq ?_
        refine SX.region ?_
        refine SXL.fieldAddr fp_73_3 rfl ?_
        refine SXL.load1o 1 sh_33 rfl rfl rfl ?_
        refine SXL.len is_33 rfl ?_
        refine SXL.gtr rfl rfl ?_
        refine SXL.nil ?_
        refine thenQ.normal ?_
        refine SX.condP rfl (fun c38 => ?_) (fun c38 => ?_)
        · refine SX.seq ?_
          refine SX.region ?_
          refine SXL.assign rfl ?_
          refine SXL.nil ?_
          refine thenQ.normal ?_
          refine SX.ret ?_
          refine blockQ.ret ?_
          refine thenQ.ret ?_
          refine thenQ.ret ?_
          refine blockQ.ret ?_
          refine thenQ.ret ?_
          refine retQ.one (ResAt.tmp rfl) ?_
          exact congrArg Value.bool (decide_eq_true (p := ¬LitP u) ((fun h => by have := h.2.2 k (by omega); omega))).symm
        · refine SX.skip ?_
          refine blockQ.normal ?_
          refine thenQ.normal ?_
          refine SX.region ?_
          refine SXL.add rfl rfl (by omega) ?_
          refine SXL.move rfl ?_
          refine SXL.nil ?_
          refine thenQ.normal ?_
          refine ⟨k + 1, Meets.mk _ ⟨rfl, trivial⟩ ⟨rfl, rfl, rfl, trivial⟩ rfl, ?_, (by omega)⟩
          refine ⟨by omega, fun i hi => ?_⟩
          by_cases e : i = k
          · subst e; omega
          · exact hall2 i (by omega)
      · refine SX.exit ?_
        refine thenQ.exit ?_
        refine thenQ.exit ?_
        refine blockQ.exit ?_
        refine thenQ.normal ?_
        refine SX.seq ?_
        refine SX.region ?_
        refine SXL.assign rfl ?_
        refine SXL.nil ?_
        refine thenQ.normal ?_
        refine SX.ret ?_
        refine retQ.one (ResAt.tmp rfl) ?_
        exact congrArg Value.bool (decide_eq_false (p := ¬LitP u) (fun h => h ⟨by omega, fun i hi => hall i (by omega), fun i hi => hall2 i (by omega)⟩)).symm
set_option maxHeartbeats 4000000 in
theorem twin9_any (u : Su) (fo so : Option Addr) (fc sc : Nat) (fa : Nat → FA) (sa : Nat → DA) (hl : LitP u) (w : World) (hs : SuAt w u fo so fa sa) :
    CallsR Tryd.prog 7 [.agg ⟨[.slice fo u.founts.length fc, .slice so u.streets.length sc]⟩] w (TwR u) := by
  have hL0 := hl.1
  have hL1 := hl.2.1
  have hL2 := hl.2.2
  refine CallsR.of_SX (n := 47) (rs := [.cell 2 25]) Tryd.func7 rfl rfl rfl rfl ?_
  show SX _ _ _ ⟨[(0, .agg ⟨[.slice fo u.founts.length fc, .slice so u.streets.length sc]⟩)], [], []⟩
  refine SX.seq ?_
  refine SX.region ?_
  refine SXL.box rfl rfl ?_; intro b0
  refine SXL.alloc zp_25 ?_; intro b1
  refine SXL.nil ?_
  refine thenQ.normal ?_
  refine SX.seq ?_
  refine SX.region ?_
  refine SXL.alloc zp_25 ?_; intro b2
  refine SXL.nil ?_
  refine thenQ.normal ?_
  refine SX.seq ?_
  refine SX.seq ?_
  refine SX.pad (Sl.nil.ent 70 []) rfl ?_
  refine SX.region ?_
  refine SXL.fieldAddr fp_25_0 rfl ?_
  refine SXL.load1o 0 sh_22 rfl rfl rfl ?_
  refine SXL.len is_22 rfl ?_
  refine SXL.move rfl ?_
  refine SXL.nil ?_
  refine thenQ.normal ?_
  refine SX.block ?_
  refine SX.loopW (α := Nat × Sl × Nat × List Value × X.Own × (Nat → FA)) [1, 2, 3, 9, 10] rfl (fun ⟨k, q, n, c, T, ga⟩ => [(11, .int .i64 ((k : Int)))]) (fun ⟨k, q, n, c, T, ga⟩ => [(b0, .cells ⟨[.slice fo u.founts.length fc, .slice so u.streets.length sc]⟩ 25 (0, 0)), (b1, .cells ⟨[.slice none 0 0, .slice none 0 0]⟩ 25 (0, 0)), (b2, .cells ⟨[q.val n, .slice none 0 0]⟩ 25 (0, 0)), q.ent 70 c]) (fun ⟨k, q, n, c, T, ga⟩ => T) (fun ⟨k, q, n, c, T, ga⟩ => k ≤ u.founts.length ∧ q.Ok n 10 c ∧ k = n ∧ c = (foRowsN u ga k).flatten ∧ SpHas T u ga k) (fun ⟨k, q, n, c, T, ga⟩ => u.founts.length - k) (0, Sl.nil, 0, [], [], fun _ => default) ⟨Nat.zero_le _, .none _, rfl, rfl, fun i hi => absurd hi (Nat.not_lt_zero _)⟩ ⟨rfl, trivial⟩ rfl ?_
  rintro ⟨k, q, n, c, T, ga⟩ ⟨hk, ho, rfl, rfl, hT⟩
  refine SX.seq ?_
  refine SX.region ?_
  refine SXL.lss rfl rfl ?_
  refine SXL.nil ?_
  refine thenQ.normal ?_
  refine SX.seq ?_
  refine SX.condP rfl (fun c12 => ?_) (fun c12 => ?_)
  · refine SX.skip ?_
    refine thenQ.normal ?_
    refine SX.seq ?_
    refine SX.block ?_
    refine SX.seq ?_
    obtain ⟨b, o, ha, hm⟩ := hs.fount (i := k) (by omega)
    have hLk := hL1 k (by omega)
    refine SX.region ?_
    refine SXL.indexR el_22 rfl rfl ha (by omega) ?_
    refine SXL.loadN sh_70 rfl (hm _) rfl ?_
    refine SXL.alloc zp_70 ?_; intro b4
    refine SXL.insN 4 ?_
    refine SXL.store 4 sz_70 rfl rfl rfl rfl rfl rfl ?_
    refine SXL.nil ?_
    refine thenQ.normal ?_
    refine SX.draw 11 (by kernel_rfl) (by kernel_rfl) ⟨[0, 2, 3, 4, 5, 7, 10, 11], [true, true, true, false]⟩ ?_
    refine SXA.takeM 0 1 rfl (by kernel_rfl) rfl ?_
    refine SXL.fieldAddr fp_25_0 rfl ?_
    refine SXL.nil ⟨rfl, rfl, rfl, ?_⟩
    refine SXA.take 1 1 rfl (by kernel_rfl) rfl ?_
    refine SXL.load1o 2 sh_22 rfl rfl rfl ?_
    refine SXL.nil ⟨rfl, rfl, rfl, ?_⟩
    refine SXA.takeM 2 4 rfl (by kernel_rfl) rfl ?_
    refine SXL.fieldAddr fp_70_0 rfl ?_
    refine SXL.load1o 3 sh_3 rfl rfl rfl ?_
    refine SXL.fieldAddr fp_70_1 rfl ?_
    refine SXL.loadNo 3 sh_68 rfl rfl rfl ?_
    refine SXL.nil ⟨rfl, rfl, rfl, ?_⟩
    refine SXA.all [6] (by kernel_rfl) rfl ⟨⟨?_, rfl⟩, trivial⟩
    refine (show SXL _ _ [_] _ _ from ?_)
    refine SXL.callF (SpR (u.founts.getD k default).sp) fn_38 rfl (fun w hI => twin_any (u.founts.getD k default).sp (fa k).bo (fa k).ro (fa k).bc (fa k).rc (by omega) (by omega) w ((hs.springs k (by omega)).inv hI)) ?_; rintro _ _ ⟨r1, r2, o1, o2, rfl, rfl⟩
    refine SXL.nil (stepQ.mk _ rfl rfl ?_)
    refine SXA.takeM 7 1 rfl (by kernel_rfl) rfl ?_
    refine SXL.buildS pl_70 zp_70 rfl rfl ?_
    refine SXL.nil ⟨rfl, rfl, rfl, ?_⟩
    refine SXA.all [8] (by kernel_rfl) rfl ⟨⟨?_, rfl⟩, trivial⟩
    refine (show SXL _ _ [_] _ _ from ?_)
    refine SXL.buildSlice et_22 zp_70 rfl rfl rfl rfl ?_; intro b5
    refine SXL.nil (stepQ.mk _ rfl rfl ?_)
    refine SXA.all [9] (by kernel_rfl) rfl ⟨⟨?_, rfl⟩, trivial⟩
    refine (show SXL _ _ [_] _ _ from ?_)
    refine SXL.append 3 ap_22 rfl rfl ho rfl srcLast rfl rfl ⟨by simp only [maxLen]; omega, by omega⟩ ?_; intro r_24 o_24
    refine SXL.nil (stepQ.mkL0 (by kernel_rfl) rfl rfl ?_)
    refine SXA.takeM 10 1 rfl (by kernel_rfl) rfl ?_
    refine SXL.fieldAddr fp_25_0 rfl ?_
    refine SXL.nil ⟨rfl, rfl, rfl, ?_⟩
    refine SXA.done (by kernel_rfl) ?_
    refine SXL.store 2 sz_22 rfl rfl rfl rfl rfl rfl ?_
    refine SXL.nil ?_
    refine blockQ.normal ?_
    refine thenQ.normal ?_
    refine SX.region ?_
    refine SXL.add rfl rfl (by omega) ?_
    refine SXL.move rfl ?_
    refine SXL.nil ?_
    refine thenQ.normal ?_
    refine ⟨(k + 1, _, _, _, T ++ [r1.ent 129 (bookC (u.founts.getD k default).sp), r2.ent 131 (readsC (u.founts.getD k default).sp)], upd ga k ⟨r1.addr, r2.addr, r1.cap, r2.cap⟩), ⟨⟨rfl, trivial⟩, ⟨rfl, rfl, rfl, rfl, rfl, trivial⟩, Sel.keepM (A := [_, _, _, _]) (M := [_]) (N := [_]) rfl, rfl⟩, ⟨by omega, o_24, rfl, (foRowsN_succ u ga k ⟨r1.addr, r2.addr, r1.cap, r2.cap⟩).symm, hT.add o1 o2⟩, (show u.founts.length - (k + 1) < u.founts.length - k by omega)⟩
  · refine SX.exit ?_
    refine thenQ.exit ?_
    refine thenQ.exit ?_
    refine blockQ.exit ?_
    refine thenQ.normal ?_
    refine SX.seq ?_
    refine SX.seq ?_
    obtain rfl : k = u.founts.length := by omega
    refine SX.pad (Sl.nil.ent 73 []) rfl ?_
    refine SX.insN 4 ?_
    refine SX.region ?_
    refine SXL.fieldAddr fp_25_1 rfl ?_
    refine SXL.load1o 0 sh_23 rfl rfl rfl ?_
    refine SXL.len is_23 rfl ?_
    refine SXL.move rfl ?_
    refine SXL.nil ?_
    refine thenQ.normal ?_
    refine SX.block ?_
    refine SX.loopW (α := Nat × Sl × Nat × List Value × X.Own × (Nat → DA)) [2, 3, 28, 29] rfl (fun ⟨k, q2, n2, c2, T2, ta⟩ => [(30, .int .i64 ((k : Int)))]) (fun ⟨k, q2, n2, c2, T2, ta⟩ => [(b0, .cells ⟨[.slice fo u.founts.length fc, .slice so u.streets.length sc]⟩ 25 (0, 0)), (b1, .cells ⟨[.slice none 0 0, .slice none 0 0]⟩ 25 (0, 0)), (b2, .cells ⟨[q.val u.founts.length, q2.val n2]⟩ 25 (0, 0)), q.ent 70 (foRowsN u ga u.founts.length).flatten, q2.ent 73 c2]) (fun ⟨k, q2, n2, c2, T2, ta⟩ => T2) (fun ⟨k, q2, n2, c2, T2, ta⟩ => k ≤ u.streets.length ∧ q2.Ok n2 5 c2 ∧ k = n2 ∧ c2 = (srRowsN u ta k).flatten ∧ DrHas T2 u ta k ∧ SpHas T2 u ga u.founts.length) (fun ⟨k, q2, n2, c2, T2, ta⟩ => u.streets.length - k) (0, Sl.nil, 0, [], T, fun _ => (none, 0)) ⟨Nat.zero_le _, .none _, rfl, rfl, fun i hi => absurd hi (Nat.not_lt_zero _), hT⟩ ⟨rfl, trivial⟩ rfl ?_
    rintro ⟨k, q2, n2, c2, T2, ta⟩ ⟨hk2, ho2, rfl, rfl, hT2, hT1⟩
    refine SX.seq ?_
    refine SX.region ?_
    refine SXL.lss rfl rfl ?_
    refine SXL.nil ?_
    refine thenQ.normal ?_
    refine SX.seq ?_
    refine SX.condP rfl (fun c31 => ?_) (fun c31 => ?_)
    · refine SX.skip ?_
      refine thenQ.normal ?_
      refine SX.seq ?_
      refine SX.block ?_
      refine SX.seq ?_
      obtain ⟨b, o, ha, hm⟩ := hs.street (i := k) (by omega)
      have hLk := hL2 k (by omega)
      refine SX.region ?_
      refine SXL.indexR el_23 rfl rfl ha (by omega) ?_
      refine SXL.loadN sh_73 rfl (hm _) rfl ?_
      refine SXL.alloc zp_73 ?_; intro b5
      refine SXL.insN 5 ?_
      refine SXL.store 5 sz_73 rfl rfl rfl rfl rfl rfl ?_
      refine SXL.nil ?_
      refine thenQ.normal ?_
      refine SX.seq ?_
      refine SX.region ?_
      refine SXL.buildSlice0 et_33 ?_; intro b6
      refine SXL.insN 6 ?_
      refine SXL.fieldAddr fp_73_3 rfl ?_
      refine SXL.load1o 5 sh_33 rfl rfl rfl ?_
      refine SXL.appendE (some b6) ap_33 rfl rfl (onesSrc ((hs.draws k (by omega))) _) (by simp) (ints_isOne _) ⟨by simp only [maxLen]; omega, by omega⟩ ?_; intro r_37 o_37
      refine SXL.insN 7 ?_
      refine SXL.fieldAddr fp_73_3 rfl ?_
      refine SXL.store 5 sz_33 rfl rfl rfl rfl rfl rfl ?_
      refine SXL.nil ?_
      refine thenQ.normal ?_
      refine SX.region ?_
      refine SXL.fieldAddr fp_25_1 rfl ?_
      refine SXL.load1o 2 sh_23 rfl rfl rfl ?_
      refine SXL.loadNo 5 sh_73 rfl rfl rfl ?_
      refine SXL.buildSlice et_23 zp_73 rfl rfl rfl rfl ?_; intro b8
      refine SXL.insN 8 ?_
      refine SXL.append 4 ap_23 rfl rfl ho2 rfl (.inr ⟨_, _, rfl, Mem.own (i := 8) rfl (takeAt_all _)⟩) rfl rfl ⟨by simp only [maxLen]; omega, by omega⟩ ?_; intro r_43 o_43
      refine SXL.fieldAddr fp_25_1 rfl ?_
      refine SXL.store 2 sz_23 rfl rfl rfl rfl rfl rfl ?_
      refine SXL.nil ?_
      refine blockQ.normal ?_
      refine thenQ.normal ?_
      refine SX.region ?_
      refine SXL.add rfl rfl (by omega) ?_
      refine SXL.move rfl ?_
      refine SXL.nil ?_
      refine thenQ.normal ?_
      refine ⟨(k + 1, _, _, _, [r_37.ent 3 (ints (u.streets.getD k default).draws)] ++ T2, upd ta k (r_37.addr, r_37.cap)), ⟨⟨rfl, trivial⟩, ⟨rfl, rfl, rfl, rfl, trivial⟩, Sel.keepM2 (A := [_, _, _, _, _]) (M := [_, _]) (B := [_]) (N := [_]) rfl, rfl⟩, ⟨by omega, o_43, rfl, (srRowsN_succ u ta k (r_37.addr, r_37.cap)).symm, hT2.add o_37, hT1.of (Sel.sub (List.sublist_append_right _ T2))⟩, (show u.streets.length - (k + 1) < u.streets.length - k by omega)⟩
    · refine SX.exit ?_
      refine thenQ.exit ?_
      refine thenQ.exit ?_
      refine blockQ.exit ?_
      refine thenQ.normal ?_
      refine SX.seq ?_
      obtain rfl : k = u.streets.length := by omega
      refine SX.region ?_
      refine SXL.loadNo 2 sh_25 rfl rfl rfl ?_
      refine SXL.store 1 sz_25 rfl rfl rfl rfl rfl rfl ?_
      refine SXL.nil ?_
      refine thenQ.normal ?_
      refine SX.ret ?_
      refine retQ.selS (Sel.keepV 5 [3, 4] rfl rfl) ?_
      refine retQ.one (ResAt.cellNo 1 sh_25 rfl rfl rfl) ?_
      exact TwR.mk' ho ho2 hT1 hT2
end Go.Proofs.YtolcicaclflagaaDoor

/- The walk of TownProofs. -/
namespace Go.Proofs.YtolcicaclflagaaDoor
open Go.X Go.S Go.T Go.RowKit
set_option maxHeartbeats 8000000 in
set_option maxRecDepth 100000 in
theorem proofs_law (u : Su) (fo so : Option Addr) (fc sc : Nat) (fa : Nat → FA) (sa : Nat → DA) (week : Int) (best : Bool) (fount : Int) (w : World) (hg : Gt w) (hs : SuAt w u fo so fa sa) :
    CallsR Tryd.prog 5 [.agg ⟨[.slice fo u.founts.length fc, .slice so u.streets.length sc]⟩, .int .i64 week, .bool best, .int .i64 fount] w (fun v _ => v = .bool true) := by
  refine CallsR.of_SX (n := 151) (rs := [.tmp 8]) Tryd.func5 rfl rfl rfl rfl ?_
  show SX _ _ _ ⟨[(0, .agg ⟨[.slice fo u.founts.length fc, .slice so u.streets.length sc]⟩), (1, .int .i64 week), (2, .bool best), (3, .int .i64 fount)], [], []⟩
  refine SX.seq ?_
  refine SX.region ?_
  refine SXL.box rfl rfl ?_; intro b0
  refine SXL.assign rfl ?_
  refine SXL.nil ?_
  refine thenQ.normal ?_
  refine SX.seq ?_
  refine SX.seq ?_
  refine SX.region ?_
  refine SXL.loadNo 0 sh_25 rfl rfl rfl ?_
  refine SXL.call1 (.bool (decide (¬LitP u))) fn_6 rfl (fun w hI => great9_any u fo so fc sc fa sa w (hs.inv hI)) ?_
  refine SXL.nil ?_
  refine thenQ.normal ?_
  refine SX.condP rfl (fun c31 => ?_) (fun c31 => ?_)
  · refine SX.seq ?_
    refine SX.region ?_
    refine SXL.assign rfl ?_
    refine SXL.nil ?_
    refine thenQ.normal ?_
    refine SX.ret ?_
    refine thenQ.ret ?_
    refine retQ.dead [] rfl ?_
    refine retQ.one (ResAt.tmp rfl) ?_
    first | rfl | simp
  · refine SX.skip ?_
    refine thenQ.normal ?_
    refine SX.seq ?_
    have hl := Decidable.not_not.1 c31
    have hl0 := hl.1
    have hpl : (prL u week best).length ≤ 1000000 := by have := prL_len u week best; omega
    have hhl : (helL u week).length ≤ 1000000 := by have := helL_len (u := u) (week := week); omega
    refine SX.region ?_
    refine SXL.loadNo 0 sh_25 rfl rfl rfl ?_
    refine SXL.callF (TwR u) fn_7 rfl (fun w hI => twin9_any u fo so fc sc fa sa hl w (hs.inv hI)) ?_; rintro _ T ⟨q1, q2, ga, ta, rfl, hT⟩
    refine SXL.alloc zp_25 ?_; intro b1
    refine SXL.insN 1 ?_
    refine SXL.store 1 sz_25 rfl rfl rfl rfl rfl rfl ?_
    refine SXL.nil ?_
    refine thenQ.normal ?_
    refine SX.seq ?_
    refine SX.region ?_
    refine SXL.loadNo 1 sh_25 rfl rfl rfl ?_
    refine SXL.move rfl ?_
    refine SXL.move rfl ?_
    refine SXL.callF (PrR (prL u week best) (prE u week best)) fn_27 rfl (fun w hI => tproof_any u q1.addr q2.addr q1.cap q2.cap ga ta week best hl w (hg.inv hI) (hT _ _ (hI.weaken (List.sublist_append_right [_, _] T)))) ?_; rintro _ P ⟨ao, ac, rfl, hPr⟩; refine (show SXL _ _ _ _ ⟨_, [_, _] ++ (T ++ P), _⟩ from ?_)
    refine SXL.move rfl ?_
    refine SXL.extract rfl rfl ?_
    refine SXL.extract rfl rfl ?_
    refine SXL.assign rfl ?_
    refine SXL.assign rfl ?_
    refine SXL.nil ?_
    refine thenQ.normal ?_
    refine SX.seq ?_
    refine SX.region ?_
    refine SXL.loadNo 0 sh_25 rfl rfl rfl ?_
    refine SXL.move rfl ?_
    refine SXL.move rfl ?_
    refine SXL.callF (LeR (prL u week best) (prE u week best)) fn_28 rfl (fun w hI => rproof_any u fo so fc sc fa sa week best hl w (hs.inv hI)) ?_; rintro _ _ ⟨p1, o1, rfl, rfl⟩
    refine SXL.insN 2 ?_
    refine SXL.move rfl ?_
    refine SXL.extract rfl rfl ?_
    refine SXL.extract rfl rfl ?_
    refine SXL.assign rfl ?_
    refine SXL.assign rfl ?_
    refine SXL.nil ?_
    refine thenQ.normal ?_
    refine SX.seq ?_
    refine SX.region ?_
    refine SXL.loadNo 1 sh_25 rfl rfl rfl ?_
    refine SXL.move rfl ?_
    refine SXL.call1 (.tuple ⟨[.agg ⟨[.int .i64 (moLo u week), .int .i64 (moHi u week)]⟩, .int .i64 (askT u week True 0)]⟩) fn_29 rfl (fun w hI => tmost_any u q1.addr q2.addr q1.cap q2.cap ga ta week hl w (hg.inv hI) (hT _ _ (hI.weaken ((List.sublist_append_left T P).trans (List.sublist_append_right [_, _, _] (T ++ P)))))) ?_
    refine SXL.move rfl ?_
    refine SXL.extract rfl rfl ?_
    refine SXL.extract rfl rfl ?_
    refine SXL.alloc zp_55 ?_; intro b3
    refine SXL.insN 3 ?_
    refine SXL.store 3 sz_55 rfl rfl rfl rfl rfl rfl ?_
    refine SXL.assign rfl ?_
    refine SXL.nil ?_
    refine thenQ.normal ?_
    refine SX.seq ?_
    refine SX.region ?_
    refine SXL.loadNo 0 sh_25 rfl rfl rfl ?_
    refine SXL.move rfl ?_
    refine SXL.call1 (.tuple ⟨[.agg ⟨[.int .i64 (moLo u week), .int .i64 (moHi u week)]⟩, .int .i64 (askT u week True 0)]⟩) fn_30 rfl (fun w hI => rmost_any u fo so fc sc fa sa week hl w (hs.inv hI)) ?_
    refine SXL.move rfl ?_
    refine SXL.extract rfl rfl ?_
    refine SXL.extract rfl rfl ?_
    refine SXL.alloc zp_55 ?_; intro b4
    refine SXL.insN 4 ?_
    refine SXL.store 4 sz_55 rfl rfl rfl rfl rfl rfl ?_
    refine SXL.assign rfl ?_
    refine SXL.nil ?_
    refine thenQ.normal ?_
    refine SX.seq ?_
    refine SX.region ?_
    refine SXL.loadNo 1 sh_25 rfl rfl rfl ?_
    refine SXL.move rfl ?_
    refine SXL.call1 (.tuple ⟨[.int .u8 (knT (askT u week True 0) (LeaP u week false) (LeaP u week true)), .int .i64 (askT u week True 0)]⟩) fn_31 rfl (fun w hI => tleast_any u q1.addr q2.addr q1.cap q2.cap ga ta week hl w (hg.inv hI) (hT _ _ (hI.weaken ((List.sublist_append_left T P).trans (List.sublist_append_right [_, _, _, _, _] (T ++ P)))))) ?_
    refine SXL.move rfl ?_
    refine SXL.extract rfl rfl ?_
    refine SXL.extract rfl rfl ?_
    refine SXL.assign rfl ?_
    refine SXL.assign rfl ?_
    refine SXL.nil ?_
    refine thenQ.normal ?_
    refine SX.seq ?_
    refine SX.region ?_
    refine SXL.loadNo 0 sh_25 rfl rfl rfl ?_
    refine SXL.move rfl ?_
    refine SXL.call1 (.tuple ⟨[.int .u8 (knT (askT u week True 0) (LeaP u week false) (LeaP u week true)), .int .i64 (askT u week True 0)]⟩) fn_32 rfl (fun w hI => rleast_any u fo so fc sc fa sa week hl w (hs.inv hI)) ?_
    refine SXL.move rfl ?_
    refine SXL.extract rfl rfl ?_
    refine SXL.extract rfl rfl ?_
    refine SXL.assign rfl ?_
    refine SXL.assign rfl ?_
    refine SXL.nil ?_
    refine thenQ.normal ?_
    refine SX.seq ?_
    refine SX.region ?_
    refine SXL.loadNo 1 sh_25 rfl rfl rfl ?_
    refine SXL.move rfl ?_
    refine SXL.callF (LeR (helL u week) (askT u week True 0)) fn_33 rfl (fun w hI => thelps_any u q1.addr q2.addr q1.cap q2.cap ga ta week hl w (hg.inv hI) (hT _ _ (hI.weaken ((List.sublist_append_left T P).trans (List.sublist_append_right [_, _, _, _, _] (T ++ P)))))) ?_; rintro _ _ ⟨h1, oh1, rfl, rfl⟩
    refine SXL.insN 5 ?_
    refine SXL.move rfl ?_
    refine SXL.extract rfl rfl ?_
    refine SXL.extract rfl rfl ?_
    refine SXL.assign rfl ?_
    refine SXL.assign rfl ?_
    refine SXL.nil ?_
    refine thenQ.normal ?_
    refine SX.seq ?_
    refine SX.region ?_
    refine SXL.loadNo 0 sh_25 rfl rfl rfl ?_
    refine SXL.move rfl ?_
    refine SXL.callF (LeR (helL u week) (askT u week True 0)) fn_34 rfl (fun w hI => rhelps_any u fo so fc sc fa sa week hl w (hs.inv hI)) ?_; rintro _ _ ⟨h2, oh2, rfl, rfl⟩
    refine SXL.insN 6 ?_
    refine SXL.move rfl ?_
    refine SXL.extract rfl rfl ?_
    refine SXL.extract rfl rfl ?_
    refine SXL.assign rfl ?_
    refine SXL.assign rfl ?_
    refine SXL.nil ?_
    refine thenQ.normal ?_
    refine SX.seq ?_
    refine SX.region ?_
    refine SXL.loadNo 1 sh_25 rfl rfl rfl ?_
    refine SXL.move rfl ?_
    refine SXL.move rfl ?_
    refine SXL.call1 (.tuple ⟨[.int .i64 (moV u week fount), .int .i64 (moE u week fount)]⟩) fn_35 rfl (fun w hI => tmore_any u q1.addr q2.addr q1.cap q2.cap ga ta week fount hl w (hg.inv hI) (hT _ _ (hI.weaken ((List.sublist_append_left T P).trans (List.sublist_append_right [_, _, _, _, _, _, _] (T ++ P)))))) ?_
    refine SXL.move rfl ?_
    refine SXL.extract rfl rfl ?_
    refine SXL.extract rfl rfl ?_
    refine SXL.assign rfl ?_
    refine SXL.assign rfl ?_
    refine SXL.nil ?_
    refine thenQ.normal ?_
    refine SX.seq ?_
    refine SX.region ?_
    refine SXL.loadNo 0 sh_25 rfl rfl rfl ?_
    refine SXL.move rfl ?_
    refine SXL.move rfl ?_
    refine SXL.call1 (.tuple ⟨[.int .i64 (moV u week fount), .int .i64 (moE u week fount)]⟩) fn_36 rfl (fun w hI => rmore_any u fo so fc sc fa sa week fount hl w (hs.inv hI)) ?_
    refine SXL.move rfl ?_
    refine SXL.extract rfl rfl ?_
    refine SXL.extract rfl rfl ?_
    refine SXL.assign rfl ?_
    refine SXL.assign rfl ?_
    refine SXL.nil ?_
    refine thenQ.normal ?_
    refine SX.seq ?_
    refine SX.region ?_
    refine SXL.move rfl ?_
    refine SXL.move rfl ?_
    refine SXL.call1 (.bool (decide (prL u week best = prL u week best))) fn_20 rfl (fun w hI => sameInts9_any (prL u week best) (prL u week best) ao p1.addr ac p1.cap hpl w (hPr _ _ (hI.weaken ((List.sublist_append_right T P).trans (List.sublist_append_right [_, _, _, _, _, _, _] (T ++ P))))) (slOnes hI o1 (i := 2) rfl)) ?_
    refine SXL.move rfl ?_
    apply SXL.andG 3
    case hl => exact rfl
    case hd => exact rfl
    case hg => exact rfl
    case ht =>
      intro g2
      refine SXL.move rfl ?_
      refine SXL.move rfl ?_
      refine SXL.eqlI rfl rfl ?_
      exact SXL.nil (segQ.mk (.skip rfl (.skip rfl (.skip rfl (.skip rfl (EnvSub.refl _))))) rfl rfl ⟨rfl, rfl⟩)
    case hf =>
      intro g2
      refine SXL.pass rfl rfl rfl ?_
      refine SXL.pass rfl rfl rfl ?_
      refine SXL.pass rfl rfl rfl ?_
      exact SXL.nil (segQ.mk (.skip rfl (.skip rfl (.skip rfl (.skip rfl (EnvSub.refl _))))) rfl rfl rfl)
    refine SXL.move rfl ?_
    apply SXL.andG 3
    case hl => exact rfl
    case hd => exact rfl
    case hg => exact rfl
    case ht =>
      intro g3
      refine SXL.loadNo 3 sh_55 rfl rfl rfl ?_
      refine SXL.loadNo 4 sh_55 rfl rfl rfl ?_
      refine SXL.eqlV (p := [moLo u week, moHi u week] = [moLo u week, moHi u week]) (u := .agg ⟨ints ([moLo u week, moHi u week])⟩) (v := .agg ⟨ints ([moLo u week, moHi u week])⟩) rfl rfl (run_eql_ints eq_55 eg_55 sh_55 rfl rfl) ?_
      exact SXL.nil (segQ.mk (.skip rfl (.skip rfl (.skip rfl (.skip rfl (EnvSub.refl _))))) rfl rfl ⟨rfl, rfl⟩)
    case hf =>
      intro g3
      refine SXL.pass rfl rfl rfl ?_
      refine SXL.pass rfl rfl rfl ?_
      refine SXL.pass rfl rfl rfl ?_
      exact SXL.nil (segQ.mk (.skip rfl (.skip rfl (.skip rfl (.skip rfl (EnvSub.refl _))))) rfl rfl rfl)
    refine SXL.move rfl ?_
    apply SXL.andG 3
    case hl => exact rfl
    case hd => exact rfl
    case hg => exact rfl
    case ht =>
      intro g4
      refine SXL.move rfl ?_
      refine SXL.move rfl ?_
      refine SXL.eqlI rfl rfl ?_
      exact SXL.nil (segQ.mk (.skip rfl (.skip rfl (.skip rfl (.skip rfl (EnvSub.refl _))))) rfl rfl ⟨rfl, rfl⟩)
    case hf =>
      intro g4
      refine SXL.pass rfl rfl rfl ?_
      refine SXL.pass rfl rfl rfl ?_
      refine SXL.pass rfl rfl rfl ?_
      exact SXL.nil (segQ.mk (.skip rfl (.skip rfl (.skip rfl (.skip rfl (EnvSub.refl _))))) rfl rfl rfl)
    refine SXL.move rfl ?_
    apply SXL.andG 3
    case hl => exact rfl
    case hd => exact rfl
    case hg => exact rfl
    case ht =>
      intro g5
      refine SXL.move rfl ?_
      refine SXL.move rfl ?_
      refine SXL.eqlI rfl rfl ?_
      exact SXL.nil (segQ.mk (.skip rfl (.skip rfl (.skip rfl (.skip rfl (EnvSub.refl _))))) rfl rfl ⟨rfl, rfl⟩)
    case hf =>
      intro g5
      refine SXL.pass rfl rfl rfl ?_
      refine SXL.pass rfl rfl rfl ?_
      refine SXL.pass rfl rfl rfl ?_
      exact SXL.nil (segQ.mk (.skip rfl (.skip rfl (.skip rfl (.skip rfl (EnvSub.refl _))))) rfl rfl rfl)
    refine SXL.move rfl ?_
    apply SXL.andG 3
    case hl => exact rfl
    case hd => exact rfl
    case hg => exact rfl
    case ht =>
      intro g6
      refine SXL.move rfl ?_
      refine SXL.move rfl ?_
      refine SXL.eqlI rfl rfl ?_
      exact SXL.nil (segQ.mk (.skip rfl (.skip rfl (.skip rfl (.skip rfl (EnvSub.refl _))))) rfl rfl ⟨rfl, rfl⟩)
    case hf =>
      intro g6
      refine SXL.pass rfl rfl rfl ?_
      refine SXL.pass rfl rfl rfl ?_
      refine SXL.pass rfl rfl rfl ?_
      exact SXL.nil (segQ.mk (.skip rfl (.skip rfl (.skip rfl (.skip rfl (EnvSub.refl _))))) rfl rfl rfl)
    refine SXL.move rfl ?_
    apply SXL.andG 3
    case hl => exact rfl
    case hd => exact rfl
    case hg => exact rfl
    case ht =>
      intro g7
      refine SXL.move rfl ?_
      refine SXL.move rfl ?_
      refine SXL.call1 (.bool (decide (helL u week = helL u week))) fn_20 rfl (fun w hI => sameInts9_any (helL u week) (helL u week) h1.addr h2.addr h1.cap h2.cap hhl w (slOnes hI oh1 (i := 5) rfl) (slOnes hI oh2 (i := 6) rfl)) ?_
      exact SXL.nil (segQ.mk (.skip rfl (.skip rfl (.skip rfl (.skip rfl (EnvSub.refl _))))) rfl rfl ⟨rfl, rfl⟩)
    case hf =>
      intro g7
      refine SXL.pass rfl rfl rfl ?_
      refine SXL.pass rfl rfl rfl ?_
      refine SXL.pass rfl rfl rfl ?_
      exact SXL.nil (segQ.mk (.skip rfl (.skip rfl (.skip rfl (.skip rfl (EnvSub.refl _))))) rfl rfl rfl)
    refine SXL.move rfl ?_
    apply SXL.andG 3
    case hl => exact rfl
    case hd => exact rfl
    case hg => exact rfl
    case ht =>
      intro g8
      refine SXL.move rfl ?_
      refine SXL.move rfl ?_
      refine SXL.eqlI rfl rfl ?_
      exact SXL.nil (segQ.mk (.skip rfl (.skip rfl (.skip rfl (.skip rfl (EnvSub.refl _))))) rfl rfl ⟨rfl, rfl⟩)
    case hf =>
      intro g8
      refine SXL.pass rfl rfl rfl ?_
      refine SXL.pass rfl rfl rfl ?_
      refine SXL.pass rfl rfl rfl ?_
      exact SXL.nil (segQ.mk (.skip rfl (.skip rfl (.skip rfl (.skip rfl (EnvSub.refl _))))) rfl rfl rfl)
    refine SXL.move rfl ?_
    apply SXL.andG 3
    case hl => exact rfl
    case hd => exact rfl
    case hg => exact rfl
    case ht =>
      intro g9
      refine SXL.move rfl ?_
      refine SXL.move rfl ?_
      refine SXL.eqlI rfl rfl ?_
      exact SXL.nil (segQ.mk (.skip rfl (.skip rfl (.skip rfl (.skip rfl (EnvSub.refl _))))) rfl rfl ⟨rfl, rfl⟩)
    case hf =>
      intro g9
      refine SXL.pass rfl rfl rfl ?_
      refine SXL.pass rfl rfl rfl ?_
      refine SXL.pass rfl rfl rfl ?_
      exact SXL.nil (segQ.mk (.skip rfl (.skip rfl (.skip rfl (.skip rfl (EnvSub.refl _))))) rfl rfl rfl)
    refine SXL.move rfl ?_
    apply SXL.andG 3
    case hl => exact rfl
    case hd => exact rfl
    case hg => exact rfl
    case ht =>
      intro g10
      refine SXL.move rfl ?_
      refine SXL.move rfl ?_
      refine SXL.eqlI rfl rfl ?_
      exact SXL.nil (segQ.mk (.skip rfl (.skip rfl (.skip rfl (.skip rfl (EnvSub.refl _))))) rfl rfl ⟨rfl, rfl⟩)
    case hf =>
      intro g10
      refine SXL.pass rfl rfl rfl ?_
      refine SXL.pass rfl rfl rfl ?_
      refine SXL.pass rfl rfl rfl ?_
      exact SXL.nil (segQ.mk (.skip rfl (.skip rfl (.skip rfl (.skip rfl (EnvSub.refl _))))) rfl rfl rfl)
    refine SXL.move rfl ?_
    apply SXL.andG 3
    case hl => exact rfl
    case hd => exact rfl
    case hg => exact rfl
    case ht =>
      intro g11
      refine SXL.loadNo 1 sh_25 rfl rfl rfl ?_
      refine SXL.loadNo 0 sh_25 rfl rfl rfl ?_
      refine SXL.call1 (.bool (decide (u = u))) fn_21 rfl (fun w hI => same9_any u u q1.addr q2.addr fo so q1.cap q2.cap fc sc ga fa ta sa hl w (hT _ _ (hI.weaken ((List.sublist_append_left T P).trans (List.sublist_append_right [_, _, _, _, _, _, _] (T ++ P))))) (hs.inv hI)) ?_
      exact SXL.nil (segQ.mk (.skip rfl (.skip rfl (.skip rfl (.skip rfl (EnvSub.refl _))))) rfl rfl ⟨rfl, rfl⟩)
    case hf =>
      intro g11
      refine SXL.pass rfl rfl rfl ?_
      refine SXL.pass rfl rfl rfl ?_
      refine SXL.pass rfl rfl rfl ?_
      exact SXL.nil (segQ.mk (.skip rfl (.skip rfl (.skip rfl (.skip rfl (EnvSub.refl _))))) rfl rfl rfl)
    refine SXL.assign rfl ?_
    refine SXL.nil ?_
    refine thenQ.normal ?_
    refine SX.ret ?_
    refine retQ.dead [] rfl ?_
    refine retQ.one (ResAt.tmp rfl) ?_
    first | rfl | simp
end Go.Proofs.YtolcicaclflagaaDoor

/- TownProofs: whatever the input, the law returns true and the input reads as it did. Its condition: the package's variables are as the program's text lays them (the card ties them). -/
namespace Go.Proofs.YtolcicaclflagaaDoor.TownProofs
open Go Go.X Go.S Go.T Go.RowKit Go.ChangeShapes Go.WideShapes Go.ChangeAt
set_option maxRecDepth 100000
/-- The door's own heap meets the condition. -/
theorem door_met (os : Os) (args : Array Value) : laidMetH Tryd.prog Rows.townProofsRow.laid ((World.doorLaid Tryd.prog 24 os).forCall (fun _ _ => 0) ⟨#[], args, []⟩).memory :=
  laidMetH_of_parts3 (fuel := 8) (laidMet_of_run' 8 (by kernel_rfl) (by kernel_rfl)) (by kernel_rfl) (by kernel_rfl)
theorem spec_fn (H : Type) (ds : List (DataW H)) (h : ds.length = Tryd.f5.params.toList.length) : Rows.townProofsSpec.fn H ds = { results := [.lit (.bool true)], args := ds } := by
  rw [Tryd.params5] at h
  match ds, h with
  | [e0, e1, e2, e3], _ => rfl
theorem contract (H : Type) (enc : TypeId × Value → H) (W : World) (base : Nat) (args : Array Value) (ds gs : List (DataW H)) (before : List MemPlace)
    (hval : ∀ (j : Nat) t v, Tryd.f5.params[j]? = some t → args[j]? = some v → Value.okWide Tryd.prog W .any base t v)
    (hW : DataW.Whole enc Tryd.prog Tryd.f5.params.toList Rows.townProofsSpec.vars false W args.toList ds gs before) (hL : laidMetH Tryd.prog Rows.townProofsRow.laid W) :
    Calls Tryd.prog 5 args W fun e W' => ∃ v, e = .returned v ∧ Rows.townProofsSpec.post enc Tryd.prog Tryd.f5 false true false false W args v W' := by
  have hW' := hW
  obtain ⟨p, q, hA0, hV, rfl, hfz, hnd⟩ := hW
  have hA : DataW.TrodAll enc Tryd.prog W 0 (fun _ => true) true Tryd.f5.params.toList args.toList ds p := hA0
  rw [Tryd.params5] at hA hval
  obtain ⟨v0, vs0, d0, ds0, p0, q0, hv0, rfl, hp0, h0, r0⟩ := trodAll_cons hA
  obtain ⟨v1, vs1, d1, ds1, p1, q1, hv1, rfl, hp1, h1, r1⟩ := trodAll_cons r0
  obtain ⟨v2, vs2, d2, ds2, p2, q2, hv2, rfl, hp2, h2, r2⟩ := trodAll_cons r1
  obtain ⟨v3, vs3, d3, ds3, p3, q3, hv3, rfl, hp3, h3, r3⟩ := trodAll_cons r2
  obtain ⟨hvn, rfl, hpn⟩ := trodAll_nil r3
  have hargs : args = #[v0, v1, v2, v3] := by cases args; simp_all
  subst hargs
  obtain ⟨cs0, rfl, hf0⟩ := arg_struct lay25 ⟨_, Tryd.underlying25⟩ (hval 0 25 _ rfl rfl) h0
  obtain ⟨u, fo, so, fc, sc, fa, sa, rfl, hs⟩ := su_of_fits hf0
  obtain ⟨week, rfl, bweek⟩ := fit_i64 (arg_cell lay3 (by kernel_rfl) (hval 1 3 _ rfl rfl) h1)
  obtain ⟨best, rfl⟩ := fit_bool (arg_cell lay4 (by kernel_rfl) (hval 2 4 _ rfl rfl) h2)
  obtain ⟨fount, rfl, bfount⟩ := fit_i64 (arg_cell lay3 (by kernel_rfl) (hval 3 3 _ rfl rfl) h3)
  have hg : Gt W := ⟨⟨checks_of_laid hL (by simp [Rows.townProofsRow]), none_of_laid hL rfl⟩, tchecks_of_laid hL (by simp [Rows.townProofsRow])⟩
  refine Calls.mono (show Calls Tryd.prog 5 _ W _ from proofs_law u fo so fc sc fa sa week best fount W hg hs) ?_
  rintro e W' ⟨v, own, rfl, hI, rfl⟩
  exact ⟨_, rfl, law_post laidOut (by rw [Tryd.params5]; kernel_rfl) rfl (spec_fn H) (tb := 4) (by kernel_rfl) Tryd.underlying4 hW' hI.below⟩
theorem lifted (os : Os) (started : os.Started) (H : Type) (enc : TypeId × Value → H) :
    ReturnsInHanded {} Tryd.checked os 5 .any (fun w args => (Rows.townProofsSpec.pre enc Tryd.prog Tryd.f5 [] false w args ∧ laidMetH Tryd.prog Rows.townProofsRow.laid w) ∧ sizedMet enc Tryd.prog Tryd.f5 (OpenSpec.ofChange Rows.townProofsSpec) false w args)
      (Rows.townProofsSpec.post enc Tryd.prog Tryd.f5 false true false false) := by
  refine returnsInHanded_of_change_and (C := Tryd.checked) (X := fun w _ => laidMetH Tryd.prog Rows.townProofsRow.laid w) (fun _ _ _ hh h => h.of_heap hh) ownGd started (by kernel_rfl) Tryd.func5
    (ChangeSpec.witness_shaped (enc := enc) (C := Tryd.checked) (os := os) (X := fun w _ => laidMetH Tryd.prog Rows.townProofsRow.laid w) false (World.doorLaid Tryd.prog 24 os) #[.agg ⟨[.slice none 0 0, .slice none 0 0]⟩, .int .i64 0, .bool false, .int .i64 0] 8 rfl (World.shaped_of_RefB (by kernel_rfl) (by kernel_rfl)) (by kernel_rfl) (by kernel_rfl) (by kernel_rfl) (door_met os _)) ?_
  intro W base args ds gs before hval0 hW _ _ hL _
  exact contract H enc W base args ds gs before hval0 hW hL
theorem said : Rows.TownProofsSaid :=
  OpenClaim.holds_of_wide 5 Tryd.f5 rfl rfl rfl rfl rfl rfl rfl ⟨rfl, rfl, rfl, rfl, rfl⟩ rfl rfl rfl rfl rfl (by kernel_rfl) Tryd.func5 (by kernel_rfl)
    (of_decide_eq_true (by kernel_rfl)) (by unfold Func.isWrapper; first | (rw [if_pos (by decide +kernel)]; kernel_rfl) | (rw [if_neg (by decide +kernel)]; exact ⟨rfl, rfl⟩))
    (fun os started H enc _ => lifted os started H enc)
theorem plain (f : FuncId) (fn : Func) (hf : Tryd.pinned.checked.prog.funcNamed "aguador/aguadorlaw09.TownProofs" = some f) (hfn : Tryd.pinned.checked.prog.funcs[f]? = some fn) :
    false = Tryd.pinned.checked.prog.looks [] ∧ ∀ (j : Nat) t, fn.params[j]? = some t → Tryd.pinned.checked.prog.wantsStandIn t = false := by
  obtain rfl : f = 5 := Option.some.inj ((show Tryd.prog.funcNamed "aguador/aguadorlaw09.TownProofs" = some 5 by kernel_rfl).symm.trans hf) |>.symm
  obtain rfl : fn = Tryd.f5 := (Option.some.inj (Tryd.func5.symm.trans hfn)).symm
  refine ⟨by kernel_rfl, fun j t ht => ?_⟩
  rw [Tryd.params5] at ht
  have hm : t ∈ ([25, 3, 4, 3] : List TypeId) := by simpa using Array.mem_of_getElem? ht
  have hall : (([25, 3, 4, 3] : List TypeId).all fun u => !Tryd.prog.wantsStandIn u) = true := by kernel_rfl
  exact (show Tryd.prog.wantsStandIn t = false by simpa using List.all_eq_true.1 hall t hm)
theorem townProofs_card : Rows.TownProofsCardSaid :=
  Claim7.holds_tied_plain_at .later [] _ _ _ _ said (fun _ h => by cases h) (by kernel_rfl) (fun _ h => by cases h) townProofs_row_tie rfl ⟨rfl, rfl⟩ (by kernel_rfl) rfl plain (by kernel_rfl)
end Go.Proofs.YtolcicaclflagaaDoor.TownProofs
