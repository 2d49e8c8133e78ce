/- Texts of the proof, merged: S1, S2, D5, S3, S4, XW, D6, S5, S6, S7, P18. -/
import Derived.Test.YtknflipongbngaaDoorMSpringEnds2
/- The walks of functions. -/
namespace Go.Proofs.YtknflipongbngaaDoor
open Go.X Go.S Go.RowKit
theorem indexFuncInts (l : List Int) (ao : Option Addr) (c : Nat) (F : Nat) (first capt : List Value) (p : Nat → Prop) [DecidablePred p] (hF : fnOk Tryd.prog F = true) (hmx : l.length ≤ 1000000) (w : World) (h : RowsAt w ao 1 (ones l)) (hc : ∀ k, k < l.length → ∀ w', Below w.heap.size w w' → CallsR Tryd.prog F (first ++ [.int .i64 (l.getD k 0)] ++ capt) w' (fun v _ => v = .bool (decide (p k)))) :
    CallsR Tryd.prog 131 [.slice ao l.length c, .func (.func F) ⟨first⟩ ⟨capt⟩] w (fun v _ => v = .int .i64 (idxF p l.length)) := by
  refine CallsR.of_SX (n := 19) (rs := [.tmp 4]) Tryd.func131 rfl rfl rfl rfl ?_
  show SX _ _ _ ⟨[(0, .slice ao l.length c), (1, .func (.func F) ⟨first⟩ ⟨capt⟩)], [], []⟩
  refine SX.seq ?_
  refine SX.region ?_
  refine SXL.assign rfl ?_
  refine SXL.nil ?_
  refine thenQ.normal ?_
  refine SX.seq ?_
  refine SX.seq ?_
  refine SX.region ?_
  refine SXL.move rfl ?_
  refine SXL.len is_35 rfl ?_
  refine SXL.move rfl ?_
  refine SXL.nil ?_
  refine thenQ.normal ?_
  refine SX.block ?_
  refine SX.loopG (α := Nat) [0, 1, 4, 7] rfl (fun k => [(8, .int .i64 ((k : Int)))]) (fun k => []) (fun k => k ≤ l.length ∧ ∀ i, i < k → ¬p i) (fun k => l.length - k) 0 ⟨Nat.zero_le _, fun _ h => absurd h (Nat.not_lt_zero _)⟩ ⟨rfl, trivial⟩ rfl ?_
  rintro k ⟨hk, hall⟩
  refine SX.seq ?_
  refine SX.region ?_
  refine SXL.lss rfl rfl ?_
  refine SXL.nil ?_
  refine thenQ.normal ?_
  refine SX.seq ?_
  refine SX.condP rfl (fun c9 => ?_) (fun c9 => ?_)
  · refine SX.skip ?_
    refine thenQ.normal ?_
    refine SX.seq ?_
    refine SX.block ?_
    refine SX.seq ?_
    refine SX.region ?_
    refine SXL.move rfl ?_
    refine SXL.assign rfl ?_
    refine SXL.nil ?_
    refine thenQ.normal ?_
    refine SX.seq ?_
    obtain ⟨b, o, ha, hm⟩ := oneI h (i := k) (by omega)
    refine SX.region ?_
    refine SXL.move rfl ?_
    refine SXL.move rfl ?_
    refine SXL.move rfl ?_
    refine SXL.indexR el_35 rfl rfl ha (by omega) ?_
    refine SXL.load1 sh_3 rfl (hm _) ?_
    refine SXL.call1V (.bool (decide (p k))) hF rfl rfl (fun w hI => hc k (by omega) _ hI.below) ?_
    refine SXL.nil ?_
    refine thenQ.normal ?_
    refine SX.condP rfl (fun c16 => ?_) (fun c16 => ?_)
    · refine SX.seq ?_
      refine SX.region ?_
      refine SXL.move rfl ?_
      refine SXL.assign rfl ?_
      refine SXL.nil ?_
      refine thenQ.normal ?_
      refine SX.ret ?_
      refine blockQ.ret ?_
      refine thenQ.ret ?_
      refine thenQ.ret ?_
      refine blockQ.ret ?_
      refine thenQ.ret ?_
      refine retQ.one (ResAt.tmp rfl) ?_
      exact congrArg (Value.int .i64) (idxF_some (by omega) c16 hall).symm
    · refine SX.skip ?_
      refine blockQ.normal ?_
      refine thenQ.normal ?_
      refine SX.region ?_
      refine SXL.add rfl rfl (by omega) ?_
      refine SXL.move rfl ?_
      refine SXL.nil ?_
      refine thenQ.normal ?_
      refine ⟨k + 1, Meets.mk _ ⟨rfl, trivial⟩ ⟨rfl, rfl, rfl, rfl, trivial⟩ rfl, ?_, (by omega)⟩
      refine ⟨by omega, fun i hi => ?_⟩
      by_cases e : i = k
      · subst e; exact c16
      · exact hall i (by omega)
  · refine SX.exit ?_
    refine thenQ.exit ?_
    refine thenQ.exit ?_
    refine blockQ.exit ?_
    refine thenQ.normal ?_
    refine SX.seq ?_
    refine SX.region ?_
    refine SXL.assign rfl ?_
    refine SXL.nil ?_
    refine thenQ.normal ?_
    refine SX.ret ?_
    refine retQ.one (ResAt.tmp rfl) ?_
    exact congrArg (Value.int .i64) (idxF_none fun i hi => hall i (by omega)).symm
theorem containsFuncInts (l : List Int) (ao : Option Addr) (c : Nat) (F : Nat) (first capt : List Value) (p : Nat → Prop) [DecidablePred p] (hF : fnOk Tryd.prog F = true) (hmx : l.length ≤ 1000000) (w : World) (h : RowsAt w ao 1 (ones l)) (hc : ∀ k, k < l.length → ∀ w', Below w.heap.size w w' → CallsR Tryd.prog F (first ++ [.int .i64 (l.getD k 0)] ++ capt) w' (fun v _ => v = .bool (decide (p k)))) :
    CallsR Tryd.prog 119 [.slice ao l.length c, .func (.func F) ⟨first⟩ ⟨capt⟩] w (fun v _ => v = .bool (decide (0 ≤ idxF p l.length))) := by
  refine CallsR.of_SX (n := 9) (rs := [.tmp 4]) Tryd.func119 rfl rfl rfl rfl ?_
  show SX _ _ _ ⟨[(0, .slice ao l.length c), (1, .func (.func F) ⟨first⟩ ⟨capt⟩)], [], []⟩
  refine SX.seq ?_
  refine SX.region ?_
  refine SXL.assign rfl ?_
  refine SXL.nil ?_
  refine thenQ.normal ?_
  refine SX.seq ?_
  refine SX.region ?_
  refine SXL.move rfl ?_
  refine SXL.move rfl ?_
  refine SXL.call1 (.int .i64 (idxF p l.length)) fn_131 rfl (fun w hI => indexFuncInts l ao c F first capt p hF hmx w (h.inv hI) (fun k hk w' hb => hc k hk w' (belowT hI hb))) ?_
  refine SXL.geq rfl rfl ?_
  refine SXL.assign rfl ?_
  refine SXL.nil ?_
  refine thenQ.normal ?_
  refine SX.ret ?_
  refine retQ.one (ResAt.tmp rfl) ?_
  first | rfl | assumption
theorem indexFuncLines (s : Sp) (ao : Option Addr) (c : Nat) (F : Nat) (first capt : List Value) (p : Nat → Prop) [DecidablePred p] (hF : fnOk Tryd.prog F = true) (hmx : s.book.length ≤ 1000000) (w : World) (h : RowsAt w ao 5 (s.book.map Ln.cells)) (hc : ∀ k, k < s.book.length → ∀ w', Below w.heap.size w w' → CallsR Tryd.prog F (first ++ [.agg ⟨(s.book.getD k default).cells⟩] ++ capt) w' (fun v _ => v = .bool (decide (p k)))) :
    CallsR Tryd.prog 160 [.slice ao s.book.length c, .func (.func F) ⟨first⟩ ⟨capt⟩] w (fun v _ => v = .int .i64 (idxF p s.book.length)) := by
  refine CallsR.of_SX (n := 19) (rs := [.tmp 4]) Tryd.func160 rfl rfl rfl rfl ?_
  show SX _ _ _ ⟨[(0, .slice ao s.book.length c), (1, .func (.func F) ⟨first⟩ ⟨capt⟩)], [], []⟩
  refine SX.seq ?_
  refine SX.region ?_
  refine SXL.assign rfl ?_
  refine SXL.nil ?_
  refine thenQ.normal ?_
  refine SX.seq ?_
  refine SX.seq ?_
  refine SX.region ?_
  refine SXL.move rfl ?_
  refine SXL.len is_24 rfl ?_
  refine SXL.move rfl ?_
  refine SXL.nil ?_
  refine thenQ.normal ?_
  refine SX.block ?_
  refine SX.loopG (α := Nat) [0, 1, 4, 7] rfl (fun k => [(8, .int .i64 ((k : Int)))]) (fun k => []) (fun k => k ≤ s.book.length ∧ ∀ i, i < k → ¬p i) (fun k => s.book.length - k) 0 ⟨Nat.zero_le _, fun _ h => absurd h (Nat.not_lt_zero _)⟩ ⟨rfl, trivial⟩ rfl ?_
  rintro k ⟨hk, hall⟩
  refine SX.seq ?_
  refine SX.region ?_
  refine SXL.lss rfl rfl ?_
  refine SXL.nil ?_
  refine thenQ.normal ?_
  refine SX.seq ?_
  refine SX.condP rfl (fun c9 => ?_) (fun c9 => ?_)
  · refine SX.skip ?_
    refine thenQ.normal ?_
    refine SX.seq ?_
    refine SX.block ?_
    refine SX.seq ?_
    refine SX.region ?_
    refine SXL.move rfl ?_
    refine SXL.assign rfl ?_
    refine SXL.nil ?_
    refine thenQ.normal ?_
    refine SX.seq ?_
    obtain ⟨b, o, ha, hm⟩ := h.get (i := k) (r := (s.book.getD k default).cells) (by have hk2 : k < s.book.length := (by omega); simp [hk2])
    refine SX.region ?_
    refine SXL.move rfl ?_
    refine SXL.move rfl ?_
    refine SXL.move rfl ?_
    refine SXL.indexR el_24 rfl rfl ha (by omega) ?_
    refine SXL.loadN sh_61 rfl (hm _) rfl ?_
    refine SXL.call1V (.bool (decide (p k))) hF rfl rfl (fun w hI => hc k (by omega) _ hI.below) ?_
    refine SXL.nil ?_
    refine thenQ.normal ?_
    refine SX.condP rfl (fun c16 => ?_) (fun c16 => ?_)
    · refine SX.seq ?_
      refine SX.region ?_
      refine SXL.move rfl ?_
      refine SXL.assign rfl ?_
      refine SXL.nil ?_
      refine thenQ.normal ?_
      refine SX.ret ?_
      refine blockQ.ret ?_
      refine thenQ.ret ?_
      refine thenQ.ret ?_
      refine blockQ.ret ?_
      refine thenQ.ret ?_
      refine retQ.one (ResAt.tmp rfl) ?_
      exact congrArg (Value.int .i64) (idxF_some (by omega) c16 hall).symm
    · refine SX.skip ?_
      refine blockQ.normal ?_
      refine thenQ.normal ?_
      refine SX.region ?_
      refine SXL.add rfl rfl (by omega) ?_
      refine SXL.move rfl ?_
      refine SXL.nil ?_
      refine thenQ.normal ?_
      refine ⟨k + 1, Meets.mk _ ⟨rfl, trivial⟩ ⟨rfl, rfl, rfl, rfl, trivial⟩ rfl, ?_, (by omega)⟩
      refine ⟨by omega, fun i hi => ?_⟩
      by_cases e : i = k
      · subst e; exact c16
      · exact hall i (by omega)
  · refine SX.exit ?_
    refine thenQ.exit ?_
    refine thenQ.exit ?_
    refine blockQ.exit ?_
    refine thenQ.normal ?_
    refine SX.seq ?_
    refine SX.region ?_
    refine SXL.assign rfl ?_
    refine SXL.nil ?_
    refine thenQ.normal ?_
    refine SX.ret ?_
    refine retQ.one (ResAt.tmp rfl) ?_
    exact congrArg (Value.int .i64) (idxF_none fun i hi => hall i (by omega)).symm
theorem containsFuncLines (s : Sp) (ao : Option Addr) (c : Nat) (F : Nat) (first capt : List Value) (p : Nat → Prop) [DecidablePred p] (hF : fnOk Tryd.prog F = true) (hmx : s.book.length ≤ 1000000) (w : World) (h : RowsAt w ao 5 (s.book.map Ln.cells)) (hc : ∀ k, k < s.book.length → ∀ w', Below w.heap.size w w' → CallsR Tryd.prog F (first ++ [.agg ⟨(s.book.getD k default).cells⟩] ++ capt) w' (fun v _ => v = .bool (decide (p k)))) :
    CallsR Tryd.prog 157 [.slice ao s.book.length c, .func (.func F) ⟨first⟩ ⟨capt⟩] w (fun v _ => v = .bool (decide (0 ≤ idxF p s.book.length))) := by
  refine CallsR.of_SX (n := 9) (rs := [.tmp 4]) Tryd.func157 rfl rfl rfl rfl ?_
  show SX _ _ _ ⟨[(0, .slice ao s.book.length c), (1, .func (.func F) ⟨first⟩ ⟨capt⟩)], [], []⟩
  refine SX.seq ?_
  refine SX.region ?_
  refine SXL.assign rfl ?_
  refine SXL.nil ?_
  refine thenQ.normal ?_
  refine SX.seq ?_
  refine SX.region ?_
  refine SXL.move rfl ?_
  refine SXL.move rfl ?_
  refine SXL.call1 (.int .i64 (idxF p s.book.length)) fn_160 rfl (fun w hI => indexFuncLines s ao c F first capt p hF hmx w (h.inv hI) (fun k hk w' hb => hc k hk w' (belowT hI hb))) ?_
  refine SXL.geq rfl rfl ?_
  refine SXL.assign rfl ?_
  refine SXL.nil ?_
  refine thenQ.normal ?_
  refine SX.ret ?_
  refine retQ.one (ResAt.tmp rfl) ?_
  first | rfl | assumption
theorem in1c_any (n lo hi : Int) (b3 b4 : Nat) (w : World) (h3 : w.cell? ⟨b3, 0, none⟩ = some (.int .i64 lo)) (h4 : w.cell? ⟨b4, 0, none⟩ = some (.int .i64 hi)) :
    CallsR Tryd.prog 120 [.int .i64 n, .pointer (some ⟨b3, 0, none⟩), .pointer (some ⟨b4, 0, none⟩)] w (fun v _ => v = .bool (decide (n < lo ∨ hi < n))) := by
  refine CallsR.of_SX (n := 13) (rs := [.tmp 4]) Tryd.func120 rfl rfl rfl rfl ?_
  show SX _ _ _ ⟨[(0, .int .i64 n), (1, .pointer (some ⟨b3, 0, none⟩)), (2, .pointer (some ⟨b4, 0, none⟩))], [], []⟩
  refine SX.seq ?_
  refine SX.region ?_
  refine SXL.assign rfl ?_
  refine SXL.nil ?_
  refine thenQ.normal ?_
  refine SX.seq ?_
  refine SX.region ?_
  refine SXL.move rfl ?_
  refine SXL.load1 sh_3 rfl (Mem.out1 h3) ?_
  refine SXL.lss rfl rfl ?_
  refine SXL.move rfl ?_
  apply SXL.orG 3
  case hl => exact rfl
  case hd => exact rfl
  case hg => exact rfl
  case ht =>
    intro g1
    refine SXL.pass rfl rfl rfl ?_
    refine SXL.pass rfl rfl rfl ?_
    refine SXL.pass rfl rfl rfl ?_
    exact SXL.nil (segQ.mk (.skip rfl (.skip rfl (.skip rfl (.skip rfl (EnvSub.refl _))))) rfl rfl rfl)
  case hf =>
    intro g1
    refine SXL.move rfl ?_
    refine SXL.load1 sh_3 rfl (Mem.out1 h4) ?_
    refine SXL.gtr rfl rfl ?_
    exact SXL.nil (segQ.mk (.skip rfl (.skip rfl (.skip rfl (.skip rfl (EnvSub.refl _))))) rfl rfl ⟨rfl, rfl⟩)
  refine SXL.assign rfl ?_
  refine SXL.nil ?_
  refine thenQ.normal ?_
  refine SX.ret ?_
  refine retQ.one (ResAt.tmp rfl) ?_
  first | rfl | assumption
theorem in_any (l : List Int) (lo hi : Int) (ao : Option Addr) (c : Nat) (hmx : l.length ≤ 1000000) (w : World) (h : RowsAt w ao 1 (ones l)) :
    CallsR Tryd.prog 78 [.int .i64 lo, .int .i64 hi, .slice ao l.length c] w (fun v _ => v = .bool (decide (∀ x ∈ l, Wi x lo hi))) := by
  refine CallsR.of_SX (n := 11) (rs := [.tmp 6]) Tryd.func78 rfl rfl rfl rfl ?_
  show SX _ _ _ ⟨[(0, .int .i64 lo), (1, .int .i64 hi), (2, .slice ao l.length c)], [], []⟩
  refine SX.seq ?_
  refine SX.region ?_
  refine SXL.box rfl rfl ?_; intro b0
  refine SXL.box rfl rfl ?_; intro b1
  refine SXL.assign rfl ?_
  refine SXL.nil ?_
  refine thenQ.normal ?_
  refine SX.seq ?_
  refine SX.region ?_
  refine SXL.move rfl ?_
  refine SXL.makeFunc rfl rfl ?_
  refine SXL.call1 (.bool (decide (0 ≤ idxF (fun k => l.getD k 0 < lo ∨ hi < l.getD k 0) l.length))) fn_119 rfl (fun w hI => containsFuncInts l ao c 120 [] [.pointer (some ⟨b0, 0, none⟩), .pointer (some ⟨b1, 0, none⟩)] (fun k => l.getD k 0 < lo ∨ hi < l.getD k 0) fn_120 hmx w (h.inv hI) (fun k hk w' hb => in1c_any _ lo hi b0 b1 w' (ownCell (hI.ext hb) (i := 0) rfl rfl) (ownCell (hI.ext hb) (i := 1) rfl rfl))) ?_
  refine SXL.not rfl ?_
  refine SXL.assign rfl ?_
  refine SXL.nil ?_
  refine thenQ.normal ?_
  refine SX.ret ?_
  refine retQ.one (ResAt.tmp rfl) ?_
  exact congrArg Value.bool (decide_eq_decide.2 (by rw [idxF_nonneg]; exact in_iff l lo hi))
theorem in1_own {w0 w : World} {own : X.Own} (hI : Inv w0 own w) (i : Nat) {b : Nat} (x lo hi : Int) {E : TypeId} {fz : Nat × Nat} (he : own[i]? = some (b, .cells ⟨ints [x]⟩ E fz)) :
    CallsR Tryd.prog 78 [.int .i64 lo, .int .i64 hi, .slice (some ⟨b, 0, none⟩) 1 1] w (fun v _ => v = .bool (decide (Wi x lo hi))) :=
  (in_any [x] lo hi _ 1 (by simp) w (ownOnes hI [x] he)).iff (by simp)
theorem in2_own {w0 w : World} {own : X.Own} (hI : Inv w0 own w) (i : Nat) {b : Nat} (x y lo hi : Int) {E : TypeId} {fz : Nat × Nat} (he : own[i]? = some (b, .cells ⟨ints [x, y]⟩ E fz)) :
    CallsR Tryd.prog 78 [.int .i64 lo, .int .i64 hi, .slice (some ⟨b, 0, none⟩) 2 2] w (fun v _ => v = .bool (decide (Wi x lo hi ∧ Wi y lo hi))) :=
  (in_any [x, y] lo hi _ 2 (by simp) w (ownOnes hI [x, y] he)).iff (by simp)
theorem span_any (a b lo hi : Int) (w : World) :
    CallsR Tryd.prog 121 [.agg ⟨[.int .i64 a, .int .i64 b]⟩, .int .i64 lo, .int .i64 hi] w (fun v _ => v = .bool (decide (Spn a b lo hi))) := by
  refine CallsR.of_SX (n := 22) (rs := [.tmp 6]) Tryd.func121 rfl rfl rfl rfl ?_
  show SX _ _ _ ⟨[(0, .agg ⟨[.int .i64 a, .int .i64 b]⟩), (1, .int .i64 lo), (2, .int .i64 hi)], [], []⟩
  refine SX.seq ?_
  refine SX.region ?_
  refine SXL.box rfl rfl ?_; intro b0
  refine SXL.assign rfl ?_
  refine SXL.nil ?_
  refine thenQ.normal ?_
  refine SX.seq ?_
  refine SX.region ?_
  refine SXL.move rfl ?_
  refine SXL.move rfl ?_
  refine SXL.fieldAddr fp_23_0 rfl ?_
  refine SXL.load1o 0 sh_3 rfl rfl rfl ?_
  refine SXL.fieldAddr fp_23_1 rfl ?_
  refine SXL.load1o 0 sh_3 rfl rfl rfl ?_
  refine SXL.buildSlice et_35 zp_3 rfl rfl rfl rfl ?_; intro b1
  refine SXL.call1 (.bool (decide (Wi (a) (lo) (hi) ∧ Wi (b) (lo) (hi)))) fn_78 rfl (fun w hI => in2_own hI 1 (a) (b) (lo) (hi) rfl) ?_
  refine SXL.move rfl ?_
  apply SXL.andG 5
  case hl => exact rfl
  case hd => exact rfl
  case hg => exact rfl
  case ht =>
    intro g1
    refine SXL.fieldAddr fp_23_0 rfl ?_
    refine SXL.load1o 0 sh_3 rfl rfl rfl ?_
    refine SXL.fieldAddr fp_23_1 rfl ?_
    refine SXL.load1o 0 sh_3 rfl rfl rfl ?_
    refine SXL.leq rfl rfl ?_
    exact SXL.nil (segQ.mk (.skip rfl (.skip rfl (.skip rfl (.skip rfl (.skip rfl (.skip rfl (EnvSub.refl _))))))) rfl rfl ⟨rfl, rfl⟩)
  case hf =>
    intro g1
    refine SXL.pass rfl rfl rfl ?_
    refine SXL.pass rfl rfl rfl ?_
    refine SXL.pass rfl rfl rfl ?_
    refine SXL.pass rfl rfl rfl ?_
    refine SXL.pass rfl rfl rfl ?_
    exact SXL.nil (segQ.mk (.skip rfl (.skip rfl (.skip rfl (.skip rfl (.skip rfl (.skip rfl (EnvSub.refl _))))))) rfl rfl rfl)
  refine SXL.assign rfl ?_
  refine SXL.nil ?_
  refine thenQ.normal ?_
  refine SX.ret ?_
  refine retQ.one (ResAt.tmp rfl) ?_
  exact congrArg Value.bool (decide_eq_decide.2 (by omega))
theorem readable_any (x : Rd) (weeks : Int) (hw : -9223372036854775807 ≤ weeks ∧ weeks ≤ 9223372036854775807) (w : World) :
    CallsR Tryd.prog 80 [.agg ⟨x.cells⟩, .int .i64 weeks] w (fun v _ => v = .bool (decide (RdP x weeks))) := by
  refine CallsR.of_SX (n := 34) (rs := [.tmp 4]) Tryd.func80 rfl rfl rfl rfl ?_
  show SX _ _ _ ⟨[(0, .agg ⟨x.cells⟩), (1, .int .i64 weeks)], [], []⟩
  refine SX.seq ?_
  refine SX.region ?_
  refine SXL.box rfl rfl ?_; intro b0
  refine SXL.assign rfl ?_
  refine SXL.nil ?_
  refine thenQ.normal ?_
  refine SX.seq ?_
  refine SX.region ?_
  refine SXL.fieldAddr fp_54_0 rfl ?_
  refine SXL.load1o 0 sh_3 rfl rfl rfl ?_
  refine SXL.buildSlice et_35 zp_3 rfl rfl rfl rfl ?_; intro b1
  refine SXL.call1 (.bool (decide (Wi (x.num) (1) (9999)))) fn_78 rfl (fun w hI => in1_own hI 1 (x.num) (1) (9999) rfl) ?_
  refine SXL.move rfl ?_
  apply SXL.andG 6
  case hl => exact rfl
  case hd => exact rfl
  case hg => exact rfl
  case ht =>
    intro g1
    refine SXL.move rfl ?_
    refine SXL.sub rfl rfl (by omega) ?_
    refine SXL.fieldAddr fp_54_1 rfl ?_
    refine SXL.load1o 0 sh_3 rfl rfl rfl ?_
    refine SXL.buildSlice et_35 zp_3 rfl rfl rfl rfl ?_; intro b2
    refine SXL.call1 (.bool (decide (Wi (x.wk) (0) (weeks - 1)))) fn_78 rfl (fun w hI => in1_own hI 2 (x.wk) (0) (weeks - 1) rfl) ?_
    exact SXL.ownPre (SXL.nil (segQ.mk (.skip rfl (.skip rfl (.skip rfl (.skip rfl (.skip rfl (.skip rfl (.skip rfl (EnvSub.refl _)))))))) rfl rfl ⟨rfl, rfl⟩)) rfl
  case hf =>
    intro g1
    refine SXL.pass rfl rfl rfl ?_
    refine SXL.pass rfl rfl rfl ?_
    refine SXL.pass rfl rfl rfl ?_
    refine SXL.pass rfl rfl rfl ?_
    refine SXL.pass rfl rfl rfl ?_
    refine SXL.pass rfl rfl rfl ?_
    exact SXL.nil (segQ.mk (.skip rfl (.skip rfl (.skip rfl (.skip rfl (.skip rfl (.skip rfl (.skip rfl (EnvSub.refl _)))))))) rfl rfl rfl)
  refine SXL.move rfl ?_
  apply SXL.andG 4
  case hl => exact rfl
  case hd => exact rfl
  case hg => exact rfl
  case ht =>
    intro g2
    refine SXL.fieldAddr fp_54_2 rfl ?_
    refine SXL.load1o 0 sh_3 rfl rfl rfl ?_
    refine SXL.buildSlice et_35 zp_3 rfl rfl rfl rfl ?_; intro b2
    refine SXL.call1 (.bool (decide (Wi (x.bu) (1) (40)))) fn_78 rfl (fun w hI => in1_own hI 2 (x.bu) (1) (40) rfl) ?_
    exact SXL.ownPre (SXL.nil (segQ.mk (.skip rfl (.skip rfl (.skip rfl (.skip rfl (.skip rfl (EnvSub.refl _)))))) rfl rfl ⟨rfl, rfl⟩)) rfl
  case hf =>
    intro g2
    refine SXL.pass rfl rfl rfl ?_
    refine SXL.pass rfl rfl rfl ?_
    refine SXL.pass rfl rfl rfl ?_
    refine SXL.pass rfl rfl rfl ?_
    exact SXL.nil (segQ.mk (.skip rfl (.skip rfl (.skip rfl (.skip rfl (.skip rfl (EnvSub.refl _)))))) rfl rfl rfl)
  refine SXL.move rfl ?_
  apply SXL.andG 3
  case hl => exact rfl
  case hd => exact rfl
  case hg => exact rfl
  case ht =>
    intro g3
    refine SXL.fieldAddr fp_54_3 rfl ?_
    refine SXL.loadNo 0 sh_23 rfl rfl rfl ?_
    refine SXL.call1 (.bool (decide (Spn x.s0 x.s1 0 99))) fn_121 rfl (fun w hI => span_any _ _ _ _ _) ?_
    exact SXL.nil (segQ.mk (.skip rfl (.skip rfl (.skip rfl (.skip rfl (EnvSub.refl _))))) rfl rfl ⟨rfl, rfl⟩)
  case hf =>
    intro g3
    refine SXL.pass rfl rfl rfl ?_
    refine SXL.pass rfl rfl rfl ?_
    refine SXL.pass rfl rfl rfl ?_
    exact SXL.nil (segQ.mk (.skip rfl (.skip rfl (.skip rfl (.skip rfl (EnvSub.refl _))))) rfl rfl rfl)
  refine SXL.move rfl ?_
  apply SXL.andG 4
  case hl => exact rfl
  case hd => exact rfl
  case hg => exact rfl
  case ht =>
    intro g4
    refine SXL.fieldAddr fp_54_3 rfl ?_
    refine SXL.fieldAddr fp_23_1 rfl ?_
    refine SXL.load1o 0 sh_3 rfl rfl rfl ?_
    refine SXL.gtr rfl rfl ?_
    exact SXL.nil (segQ.mk (.skip rfl (.skip rfl (.skip rfl (.skip rfl (.skip rfl (EnvSub.refl _)))))) rfl rfl ⟨rfl, rfl⟩)
  case hf =>
    intro g4
    refine SXL.pass rfl rfl rfl ?_
    refine SXL.pass rfl rfl rfl ?_
    refine SXL.pass rfl rfl rfl ?_
    refine SXL.pass rfl rfl rfl ?_
    exact SXL.nil (segQ.mk (.skip rfl (.skip rfl (.skip rfl (.skip rfl (.skip rfl (EnvSub.refl _)))))) rfl rfl rfl)
  refine SXL.assign rfl ?_
  refine SXL.nil ?_
  refine thenQ.normal ?_
  refine SX.ret ?_
  refine retQ.one (ResAt.tmp rfl) ?_
  first | rfl | assumption
theorem chk0_any (s : Sp) (bo ro : Option Addr) (bc rc : Nat) (w : World) :
    CallsR Tryd.prog 153 [.agg ⟨[.int .i64 s.weeks, .int .i64 s.most, .int .i64 s.fall, .int .i64 s.a0, .int .i64 s.a1, .int .i64 s.w0, .int .i64 s.w1, (.slice bo s.book.length bc), (.slice ro s.reads.length rc)]⟩] w (fun v _ => v = .bool (decide (ckP s 0))) := by
  refine CallsR.of_SX (n := 15) (rs := [.tmp 2]) Tryd.func153 rfl rfl rfl rfl ?_
  show SX _ _ _ ⟨[(0, .agg ⟨[.int .i64 s.weeks, .int .i64 s.most, .int .i64 s.fall, .int .i64 s.a0, .int .i64 s.a1, .int .i64 s.w0, .int .i64 s.w1, (.slice bo s.book.length bc), (.slice ro s.reads.length rc)]⟩)], [], []⟩
  refine SX.seq ?_
  refine SX.region ?_
  refine SXL.box rfl rfl ?_; intro b0
  refine SXL.assign rfl ?_
  refine SXL.nil ?_
  refine thenQ.normal ?_
  refine SX.seq ?_
  refine SX.region ?_
  refine SXL.fieldAddr fp_27_0 rfl ?_
  refine SXL.load1o 0 sh_3 rfl rfl rfl ?_
  refine SXL.buildSlice et_35 zp_3 rfl rfl rfl rfl ?_; intro b1
  refine SXL.call1 (.bool (decide (Wi (s.weeks) (1) (10)))) fn_78 rfl (fun w hI => in1_own hI 1 (s.weeks) (1) (10) rfl) ?_
  refine SXL.move rfl ?_
  apply SXL.andG 6
  case hl => exact rfl
  case hd => exact rfl
  case hg => exact rfl
  case ht =>
    intro g1
    refine SXL.fieldAddr fp_27_1 rfl ?_
    refine SXL.load1o 0 sh_3 rfl rfl rfl ?_
    refine SXL.fieldAddr fp_27_2 rfl ?_
    refine SXL.load1o 0 sh_3 rfl rfl rfl ?_
    refine SXL.buildSlice et_35 zp_3 rfl rfl rfl rfl ?_; intro b2
    refine SXL.call1 (.bool (decide (Wi (s.most) (0) (100) ∧ Wi (s.fall) (0) (100)))) fn_78 rfl (fun w hI => in2_own hI 2 (s.most) (s.fall) (0) (100) rfl) ?_
    exact SXL.ownPre (SXL.nil (segQ.mk (.skip rfl (.skip rfl (.skip rfl (.skip rfl (.skip rfl (.skip rfl (.skip rfl (EnvSub.refl _)))))))) rfl rfl ⟨rfl, rfl⟩)) rfl
  case hf =>
    intro g1
    refine SXL.pass rfl rfl rfl ?_
    refine SXL.pass rfl rfl rfl ?_
    refine SXL.pass rfl rfl rfl ?_
    refine SXL.pass rfl rfl rfl ?_
    refine SXL.pass rfl rfl rfl ?_
    refine SXL.pass rfl rfl rfl ?_
    exact SXL.nil (segQ.mk (.skip rfl (.skip rfl (.skip rfl (.skip rfl (.skip rfl (.skip rfl (.skip rfl (EnvSub.refl _)))))))) rfl rfl rfl)
  refine SXL.assign rfl ?_
  refine SXL.nil ?_
  refine thenQ.normal ?_
  refine SX.ret ?_
  refine retQ.one (ResAt.tmp rfl) ?_
  first | rfl | assumption
theorem chk1_any (s : Sp) (bo ro : Option Addr) (bc rc : Nat) (w : World) :
    CallsR Tryd.prog 154 [.agg ⟨[.int .i64 s.weeks, .int .i64 s.most, .int .i64 s.fall, .int .i64 s.a0, .int .i64 s.a1, .int .i64 s.w0, .int .i64 s.w1, (.slice bo s.book.length bc), (.slice ro s.reads.length rc)]⟩] w (fun v _ => v = .bool (decide (ckP s 1))) := by
  refine CallsR.of_SX (n := 11) (rs := [.tmp 2]) Tryd.func154 rfl rfl rfl rfl ?_
  show SX _ _ _ ⟨[(0, .agg ⟨[.int .i64 s.weeks, .int .i64 s.most, .int .i64 s.fall, .int .i64 s.a0, .int .i64 s.a1, .int .i64 s.w0, .int .i64 s.w1, (.slice bo s.book.length bc), (.slice ro s.reads.length rc)]⟩)], [], []⟩
  refine SX.seq ?_
  refine SX.region ?_
  refine SXL.box rfl rfl ?_; intro b0
  refine SXL.assign rfl ?_
  refine SXL.nil ?_
  refine thenQ.normal ?_
  refine SX.seq ?_
  refine SX.region ?_
  refine SXL.fieldAddr fp_27_3 rfl ?_
  refine SXL.loadNo 0 sh_23 rfl rfl rfl ?_
  refine SXL.call1 (.bool (decide (Spn s.a0 s.a1 1 600))) fn_121 rfl (fun w hI => span_any _ _ _ _ _) ?_
  refine SXL.move rfl ?_
  apply SXL.andG 3
  case hl => exact rfl
  case hd => exact rfl
  case hg => exact rfl
  case ht =>
    intro g1
    refine SXL.fieldAddr fp_27_4 rfl ?_
    refine SXL.loadNo 0 sh_23 rfl rfl rfl ?_
    refine SXL.call1 (.bool (decide (Spn s.w0 s.w1 0 20))) fn_121 rfl (fun w hI => span_any _ _ _ _ _) ?_
    exact SXL.nil (segQ.mk (.skip rfl (.skip rfl (.skip rfl (.skip rfl (EnvSub.refl _))))) rfl rfl ⟨rfl, rfl⟩)
  case hf =>
    intro g1
    refine SXL.pass rfl rfl rfl ?_
    refine SXL.pass rfl rfl rfl ?_
    refine SXL.pass rfl rfl rfl ?_
    exact SXL.nil (segQ.mk (.skip rfl (.skip rfl (.skip rfl (.skip rfl (EnvSub.refl _))))) rfl rfl rfl)
  refine SXL.assign rfl ?_
  refine SXL.nil ?_
  refine thenQ.normal ?_
  refine SX.ret ?_
  refine retQ.one (ResAt.tmp rfl) ?_
  first | rfl | assumption
theorem chk2_any (s : Sp) (bo ro : Option Addr) (bc rc : Nat) (w : World) :
    CallsR Tryd.prog 155 [.agg ⟨[.int .i64 s.weeks, .int .i64 s.most, .int .i64 s.fall, .int .i64 s.a0, .int .i64 s.a1, .int .i64 s.w0, .int .i64 s.w1, (.slice bo s.book.length bc), (.slice ro s.reads.length rc)]⟩] w (fun v _ => v = .bool (decide (ckP s 2))) := by
  refine CallsR.of_SX (n := 13) (rs := [.tmp 2]) Tryd.func155 rfl rfl rfl rfl ?_
  show SX _ _ _ ⟨[(0, .agg ⟨[.int .i64 s.weeks, .int .i64 s.most, .int .i64 s.fall, .int .i64 s.a0, .int .i64 s.a1, .int .i64 s.w0, .int .i64 s.w1, (.slice bo s.book.length bc), (.slice ro s.reads.length rc)]⟩)], [], []⟩
  refine SX.seq ?_
  refine SX.region ?_
  refine SXL.box rfl rfl ?_; intro b0
  refine SXL.assign rfl ?_
  refine SXL.nil ?_
  refine thenQ.normal ?_
  refine SX.seq ?_
  refine SX.region ?_
  refine SXL.fieldAddr fp_27_5 rfl ?_
  refine SXL.load1o 0 sh_24 rfl rfl rfl ?_
  refine SXL.len is_24 rfl ?_
  refine SXL.leq rfl rfl ?_
  refine SXL.move rfl ?_
  apply SXL.andG 4
  case hl => exact rfl
  case hd => exact rfl
  case hg => exact rfl
  case ht =>
    intro g1
    refine SXL.fieldAddr fp_27_6 rfl ?_
    refine SXL.load1o 0 sh_25 rfl rfl rfl ?_
    refine SXL.len is_25 rfl ?_
    refine SXL.leq rfl rfl ?_
    exact SXL.nil (segQ.mk (.skip rfl (.skip rfl (.skip rfl (.skip rfl (.skip rfl (EnvSub.refl _)))))) rfl rfl ⟨rfl, rfl⟩)
  case hf =>
    intro g1
    refine SXL.pass rfl rfl rfl ?_
    refine SXL.pass rfl rfl rfl ?_
    refine SXL.pass rfl rfl rfl ?_
    refine SXL.pass rfl rfl rfl ?_
    exact SXL.nil (segQ.mk (.skip rfl (.skip rfl (.skip rfl (.skip rfl (.skip rfl (EnvSub.refl _)))))) rfl rfl rfl)
  refine SXL.assign rfl ?_
  refine SXL.nil ?_
  refine thenQ.normal ?_
  refine SX.ret ?_
  refine retQ.one (ResAt.tmp rfl) ?_
  first | rfl | assumption
theorem line_any (x : Ln) (weeks : Int) (b : Nat) (hw : Wi weeks 1 10) (w : World) (h : w.cell? ⟨b, 0, none⟩ = some (.int .i64 weeks)) :
    CallsR Tryd.prog 158 [.agg ⟨x.cells⟩, .pointer (some ⟨b, 0, none⟩)] w (fun v _ => v = .bool (decide (¬LnP x weeks))) := by
  refine CallsR.of_SX (n := 24) (rs := [.tmp 3]) Tryd.func158 rfl rfl rfl rfl ?_
  show SX _ _ _ ⟨[(0, .agg ⟨x.cells⟩), (1, .pointer (some ⟨b, 0, none⟩))], [], []⟩
  refine SX.seq ?_
  refine SX.region ?_
  refine SXL.box rfl rfl ?_; intro b0
  refine SXL.assign rfl ?_
  refine SXL.nil ?_
  refine thenQ.normal ?_
  refine SX.seq ?_
  refine SX.region ?_
  refine SXL.fieldAddr fp_61_0 rfl ?_
  refine SXL.loadNo 0 sh_23 rfl rfl rfl ?_
  refine SXL.call1 (.bool (decide (Spn x.r0 x.r1 0 20))) fn_121 rfl (fun w hI => span_any _ _ _ _ _) ?_
  refine SXL.not rfl ?_
  refine SXL.move rfl ?_
  apply SXL.orG 8
  case hl => exact rfl
  case hd => exact rfl
  case hg => exact rfl
  case ht =>
    intro g1
    refine SXL.pass rfl rfl rfl ?_
    refine SXL.pass rfl rfl rfl ?_
    refine SXL.pass rfl rfl rfl ?_
    refine SXL.pass rfl rfl rfl ?_
    refine SXL.pass rfl rfl rfl ?_
    refine SXL.pass rfl rfl rfl ?_
    refine SXL.pass rfl rfl rfl ?_
    refine SXL.pass rfl rfl rfl ?_
    exact SXL.nil (segQ.mk (.skip rfl (.skip rfl (.skip rfl (.skip rfl (.skip rfl (.skip rfl (.skip rfl (.skip rfl (.skip rfl (EnvSub.refl _)))))))))) rfl rfl rfl)
  case hf =>
    intro g1
    refine SXL.fieldAddr fp_27_0 rfl ?_
    refine SXL.load1 sh_3 rfl (Mem.out1 h) ?_
    refine SXL.sub rfl rfl (by omega) ?_
    refine SXL.fieldAddr fp_61_1 rfl ?_
    refine SXL.load1o 0 sh_3 rfl rfl rfl ?_
    refine SXL.buildSlice et_35 zp_3 rfl rfl rfl rfl ?_; intro b1
    refine SXL.call1 (.bool (decide (Wi (x.wk) (0) (weeks - 1)))) fn_78 rfl (fun w hI => in1_own hI 1 (x.wk) (0) (weeks - 1) rfl) ?_
    refine SXL.not rfl ?_
    exact SXL.ownPre (SXL.nil (segQ.mk (.skip rfl (.skip rfl (.skip rfl (.skip rfl (.skip rfl (.skip rfl (.skip rfl (.skip rfl (.skip rfl (EnvSub.refl _)))))))))) rfl rfl ⟨rfl, rfl⟩)) rfl
  refine SXL.move rfl ?_
  apply SXL.orG 4
  case hl => exact rfl
  case hd => exact rfl
  case hg => exact rfl
  case ht =>
    intro g2
    refine SXL.pass rfl rfl rfl ?_
    refine SXL.pass rfl rfl rfl ?_
    refine SXL.pass rfl rfl rfl ?_
    refine SXL.pass rfl rfl rfl ?_
    exact SXL.nil (segQ.mk (.skip rfl (.skip rfl (.skip rfl (.skip rfl (.skip rfl (EnvSub.refl _)))))) rfl rfl rfl)
  case hf =>
    intro g2
    refine SXL.fieldAddr fp_61_2 rfl ?_
    refine SXL.loadNo 0 sh_23 rfl rfl rfl ?_
    refine SXL.call1 (.bool (decide (Spn x.g0 x.g1 0 100))) fn_121 rfl (fun w hI => span_any _ _ _ _ _) ?_
    refine SXL.not rfl ?_
    exact SXL.nil (segQ.mk (.skip rfl (.skip rfl (.skip rfl (.skip rfl (.skip rfl (EnvSub.refl _)))))) rfl rfl ⟨rfl, rfl⟩)
  refine SXL.assign rfl ?_
  refine SXL.nil ?_
  refine thenQ.normal ?_
  refine SX.ret ?_
  refine retQ.one (ResAt.tmp rfl) ?_
  exact congrArg Value.bool (decide_eq_decide.2 (by unfold LnP Spn; omega))
theorem chk3_any (s : Sp) (bo ro : Option Addr) (bc rc : Nat) (hw : Wi s.weeks 1 10) (hb : s.book.length ≤ 1000000) (w : World) (hs : SpAt w s bo ro) :
    CallsR Tryd.prog 156 [.agg ⟨[.int .i64 s.weeks, .int .i64 s.most, .int .i64 s.fall, .int .i64 s.a0, .int .i64 s.a1, .int .i64 s.w0, .int .i64 s.w1, (.slice bo s.book.length bc), (.slice ro s.reads.length rc)]⟩] w (fun v _ => v = .bool (decide (ckP s 3))) := by
  refine CallsR.of_SX (n := 8) (rs := [.tmp 2]) Tryd.func156 rfl rfl rfl rfl ?_
  show SX _ _ _ ⟨[(0, .agg ⟨[.int .i64 s.weeks, .int .i64 s.most, .int .i64 s.fall, .int .i64 s.a0, .int .i64 s.a1, .int .i64 s.w0, .int .i64 s.w1, (.slice bo s.book.length bc), (.slice ro s.reads.length rc)]⟩)], [], []⟩
  refine SX.seq ?_
  refine SX.region ?_
  refine SXL.box rfl rfl ?_; intro b0
  refine SXL.assign rfl ?_
  refine SXL.nil ?_
  refine thenQ.normal ?_
  refine SX.seq ?_
  refine SX.region ?_
  refine SXL.fieldAddr fp_27_5 rfl ?_
  refine SXL.load1o 0 sh_24 rfl rfl rfl ?_
  refine SXL.makeFunc rfl rfl ?_
  refine SXL.call1 (.bool (decide (0 ≤ idxF (fun k => ¬LnP (s.book.getD k default) s.weeks) s.book.length))) fn_157 rfl (fun w hI => containsFuncLines s bo bc 158 [] [.pointer (some ⟨b0, 0, none⟩)] (fun k => ¬LnP (s.book.getD k default) s.weeks) fn_158 hb w (hs.book.inv hI) (fun k hk w' hb => line_any _ s.weeks b0 hw w' (ownCell (hI.ext hb) (i := 0) rfl rfl))) ?_
  refine SXL.not rfl ?_
  refine SXL.assign rfl ?_
  refine SXL.nil ?_
  refine thenQ.normal ?_
  refine SX.ret ?_
  refine retQ.one (ResAt.tmp rfl) ?_
  exact congrArg Value.bool (decide_eq_decide.2 (by rw [idxF_nonneg]; exact book_iff s))
theorem chk4_any (s : Sp) (bo ro : Option Addr) (bc rc : Nat) (hw : Wi s.weeks 1 10) (hr : s.reads.length ≤ 1000000) (w : World) (hs : SpAt w s bo ro) :
    CallsR Tryd.prog 159 [.agg ⟨[.int .i64 s.weeks, .int .i64 s.most, .int .i64 s.fall, .int .i64 s.a0, .int .i64 s.a1, .int .i64 s.w0, .int .i64 s.w1, (.slice bo s.book.length bc), (.slice ro s.reads.length rc)]⟩] w (fun v _ => v = .bool (decide (ckP s 4))) := by
  refine CallsR.of_SX (n := 27) (rs := [.tmp 2]) Tryd.func159 rfl rfl rfl rfl ?_
  show SX _ _ _ ⟨[(0, .agg ⟨[.int .i64 s.weeks, .int .i64 s.most, .int .i64 s.fall, .int .i64 s.a0, .int .i64 s.a1, .int .i64 s.w0, .int .i64 s.w1, (.slice bo s.book.length bc), (.slice ro s.reads.length rc)]⟩)], [], []⟩
  refine SX.seq ?_
  refine SX.region ?_
  refine SXL.box rfl rfl ?_; intro b0
  refine SXL.assign rfl ?_
  refine SXL.nil ?_
  refine thenQ.normal ?_
  refine SX.seq ?_
  refine SX.region ?_
  refine SXL.assign rfl ?_
  refine SXL.nil ?_
  refine thenQ.normal ?_
  refine SX.seq ?_
  refine SX.seq ?_
  refine SX.region ?_
  refine SXL.fieldAddr fp_27_6 rfl ?_
  refine SXL.load1o 0 sh_25 rfl rfl rfl ?_
  refine SXL.len is_25 rfl ?_
  refine SXL.move rfl ?_
  refine SXL.nil ?_
  refine thenQ.normal ?_
  refine SX.block ?_
  refine SX.loopG (α := Nat) [1, 2, 7, 8] rfl (fun k => [(9, .int .i64 ((k : Int))), (3, .int .i64 ((lastN s k)))]) (fun k => []) (fun k => k ≤ s.reads.length ∧ ∀ i, i < k → RdP (s.reads.getD i default) s.weeks ∧ lastN s i < (s.reads.getD i default).num) (fun k => s.reads.length - k) 0 ⟨Nat.zero_le _, fun _ h => absurd h (Nat.not_lt_zero _)⟩ ⟨rfl, rfl, trivial⟩ rfl ?_
  rintro k ⟨hk, hall⟩
  refine SX.seq ?_
  refine SX.region ?_
  refine SXL.lss rfl rfl ?_
  refine SXL.nil ?_
  refine thenQ.normal ?_
  refine SX.seq ?_
  refine SX.condP rfl (fun c10 => ?_) (fun c10 => ?_)
  · refine SX.skip ?_
    refine thenQ.normal ?_
    refine SX.seq ?_
    refine SX.block ?_
    refine SX.seq ?_
    obtain ⟨b, o, ha, hm⟩ := hs.readD (i := k) (by omega)
    refine SX.region ?_
    refine SXL.indexR el_25 rfl rfl ha (by omega) ?_
    refine SXL.loadN sh_54 rfl (hm _) rfl ?_
    refine SXL.alloc zp_54 ?_; intro b1
    refine SXL.store 1 sz_54 rfl rfl rfl rfl rfl rfl ?_
    refine SXL.nil ?_
    refine thenQ.normal ?_
    refine SX.seq ?_
    refine SX.seq ?_
    refine SX.region ?_
    refine SXL.fieldAddr fp_54_0 rfl ?_
    refine SXL.load1o 1 sh_3 rfl rfl rfl ?_
    refine SXL.move rfl ?_
    refine SXL.leq rfl rfl ?_
    refine SXL.move rfl ?_
    apply SXL.orG 5
    case hl => exact rfl
    case hd => exact rfl
    case hg => exact rfl
    case ht =>
      intro c23
      refine SXL.pass rfl rfl rfl ?_
      refine SXL.pass rfl rfl rfl ?_
      refine SXL.pass rfl rfl rfl ?_
      refine SXL.pass rfl rfl rfl ?_
      refine SXL.pass rfl rfl rfl ?_
      exact SXL.nil (segQ.mk (.skip rfl (.skip rfl (.skip rfl (.skip rfl (.skip rfl (.skip rfl (EnvSub.refl _))))))) rfl rfl rfl)
    case hf =>
      intro c23
      refine SXL.loadNo 1 sh_54 rfl rfl rfl ?_
      refine SXL.fieldAddr fp_27_0 rfl ?_
      refine SXL.load1o 0 sh_3 rfl rfl rfl ?_
      refine SXL.call1 (.bool (decide (RdP (s.reads.getD k default) s.weeks))) fn_80 rfl (fun w hI => readable_any _ _ (by omega) _) ?_
      refine SXL.not rfl ?_
      exact SXL.nil (segQ.mk (.skip rfl (.skip rfl (.skip rfl (.skip rfl (.skip rfl (.skip rfl (EnvSub.refl _))))))) rfl rfl ⟨rfl, rfl⟩)
    refine SXL.nil ?_
    refine thenQ.normal ?_
    refine SX.condP rfl (fun c23 => ?_) (fun c23 => ?_)
    · refine SX.seq ?_
      refine SX.region ?_
      refine SXL.assign rfl ?_
      refine SXL.nil ?_
      refine thenQ.normal ?_
      refine SX.ret ?_
      refine thenQ.ret ?_
      refine blockQ.ret ?_
      refine thenQ.ret ?_
      refine thenQ.ret ?_
      refine blockQ.ret ?_
      refine thenQ.ret ?_
      refine retQ.one (ResAt.tmp rfl) ?_
      exact congrArg Value.bool (decide_eq_false (by intro h; have := (reads_iff s).1 h k (by omega); omega)).symm
    · refine SX.skip ?_
      refine thenQ.normal ?_
      refine SX.region ?_
      refine SXL.fieldAddr fp_54_0 rfl ?_
      refine SXL.load1o 1 sh_3 rfl rfl rfl ?_
      refine SXL.assign rfl ?_
      refine SXL.nil ?_
      refine blockQ.normal ?_
      refine thenQ.normal ?_
      refine SX.region ?_
      refine SXL.add rfl rfl (by omega) ?_
      refine SXL.move rfl ?_
      refine SXL.nil ?_
      refine thenQ.normal ?_
      refine ⟨k + 1, Meets.mk _ ⟨rfl, rfl, trivial⟩ ⟨rfl, rfl, rfl, rfl, trivial⟩ rfl, ?_, (by omega)⟩
      refine ⟨by omega, fun i hi => ?_⟩
      by_cases e : i = k
      · subst e; omega
      · exact hall i (by omega)
  · refine SX.exit ?_
    refine thenQ.exit ?_
    refine thenQ.exit ?_
    refine blockQ.exit ?_
    refine thenQ.normal ?_
    refine SX.seq ?_
    refine SX.region ?_
    refine SXL.assign rfl ?_
    refine SXL.nil ?_
    refine thenQ.normal ?_
    refine SX.ret ?_
    refine retQ.one (ResAt.tmp rfl) ?_
    exact congrArg Value.bool (decide_eq_true ((reads_iff s).2 fun i hi => hall i (by omega))).symm
theorem chk_any (s : Sp) (bo ro : Option Addr) (bc rc : Nat) (k : Nat) (hk : k < 5) (hall : ∀ i, i < k → ckP s i) (hb : s.book.length ≤ 1000000) (hr : s.reads.length ≤ 1000000) (w : World) (hs : SpAt w s bo ro) :
    CallsR Tryd.prog (chkId k) [.agg ⟨[.int .i64 s.weeks, .int .i64 s.most, .int .i64 s.fall, .int .i64 s.a0, .int .i64 s.a1, .int .i64 s.w0, .int .i64 s.w1, (.slice bo s.book.length bc), (.slice ro s.reads.length rc)]⟩] w (fun v _ => v = .bool (decide (ckP s k))) := by
  match k, hk with
  | 0, _ => exact chk0_any s bo ro bc rc w
  | 1, _ => exact chk1_any s bo ro bc rc w
  | 2, _ => exact chk2_any s bo ro bc rc w
  | 3, _ => exact chk3_any s bo ro bc rc (hall 0 (by omega)).1 hb w hs
  | 4, _ => exact chk4_any s bo ro bc rc (hall 0 (by omega)).1 hr w hs
theorem fn_chk (k : Nat) (hk : k < 5) : fnOk Tryd.prog (chkId k) = true := by
  match k, hk with
  | 0, _ => exact fn_153
  | 1, _ => exact fn_154
  | 2, _ => exact fn_155
  | 3, _ => exact fn_156
  | 4, _ => exact fn_159
end Go.Proofs.YtknflipongbngaaDoor

/- The walks of functions. -/
namespace Go.Proofs.YtknflipongbngaaDoor
open Go.X Go.S Go.RowKit
theorem scheck_any (s : Sp) (bo ro : Option Addr) (bc rc : Nat) (hb : s.book.length ≤ 1000000) (hr : s.reads.length ≤ 1000000) (w : World) (hg : Gl w) (hs : SpAt w s bo ro) :
    CallsR Tryd.prog 26 [.agg ⟨[.int .i64 s.weeks, .int .i64 s.most, .int .i64 s.fall, .int .i64 s.a0, .int .i64 s.a1, .int .i64 s.w0, .int .i64 s.w1, (.slice bo s.book.length bc), (.slice ro s.reads.length rc)]⟩] w (fun v _ => v = .int .i64 (if SpP s then 0 else 10)) := by
  refine CallsR.of_SX (n := 15) (rs := [.tmp 2]) Tryd.func26 rfl rfl rfl rfl ?_
  show SX _ _ _ ⟨[(0, .agg ⟨[.int .i64 s.weeks, .int .i64 s.most, .int .i64 s.fall, .int .i64 s.a0, .int .i64 s.a1, .int .i64 s.w0, .int .i64 s.w1, (.slice bo s.book.length bc), (.slice ro s.reads.length rc)]⟩)], [], []⟩
  refine SX.seq ?_
  refine SX.region ?_
  refine SXL.box rfl rfl ?_; intro b0
  refine SXL.assign rfl ?_
  refine SXL.nil ?_
  refine thenQ.normal ?_
  refine SX.seq ?_
  refine SX.seq ?_
  refine SX.region ?_
  refine SXL.loadN sh_131 rfl (hg.memC _) rfl ?_
  refine SXL.move rfl ?_
  refine SXL.nil ?_
  refine thenQ.normal ?_
  refine SX.block ?_
  refine SX.loopG (α := Nat) [1, 2, 5] rfl (fun k => [(6, .int .i64 ((k : Int)))]) (fun k => []) (fun k => k ≤ 5 ∧ ∀ i, i < k → ckP s i) (fun k => 5 - k) 0 ⟨Nat.zero_le _, fun _ h => absurd h (Nat.not_lt_zero _)⟩ ⟨rfl, trivial⟩ rfl ?_
  rintro k ⟨hk, hall⟩
  refine SX.seq ?_
  refine SX.region ?_
  refine SXL.lss rfl rfl ?_
  refine SXL.nil ?_
  refine thenQ.normal ?_
  refine SX.seq ?_
  refine SX.condP rfl (fun c7 => ?_) (fun c7 => ?_)
  · refine SX.skip ?_
    refine thenQ.normal ?_
    refine SX.seq ?_
    refine SX.block ?_
    refine SX.seq ?_
    refine SX.region ?_
    refine SXL.indexV ae_131 sh_130 rfl rfl (by omega) (chk_take k (by omega)) ?_
    refine SXL.alloc zp_130 ?_; intro b1
    refine SXL.store 1 sz_130 rfl rfl rfl rfl rfl rfl ?_
    refine SXL.nil ?_
    refine thenQ.normal ?_
    refine SX.seq ?_
    refine SX.region ?_
    refine SXL.fieldAddr fp_130_0 rfl ?_
    refine SXL.load1o 1 sh_28 rfl rfl rfl ?_
    refine SXL.loadNo 0 sh_27 rfl rfl rfl ?_
    refine SXL.call1V (.bool (decide (ckP s k))) (fn_chk k (by omega)) rfl rfl (fun w hI => chk_any s bo ro bc rc k (by omega) hall hb hr w (hs.inv hI)) ?_
    refine SXL.not rfl ?_
    refine SXL.nil ?_
    refine thenQ.normal ?_
    refine SX.condP rfl (fun c13 => ?_) (fun c13 => ?_)
    · refine SX.seq ?_
      refine SX.region ?_
      refine SXL.assign rfl ?_
      refine SXL.nil ?_
      refine thenQ.normal ?_
      refine SX.ret ?_
      refine blockQ.ret ?_
      refine thenQ.ret ?_
      refine thenQ.ret ?_
      refine blockQ.ret ?_
      refine thenQ.ret ?_
      refine retQ.one (ResAt.tmp rfl) ?_
      rw [if_neg (fun h => c13 ((ck_iff s).1 h k (by omega)))]
    · refine SX.skip ?_
      refine blockQ.normal ?_
      refine thenQ.normal ?_
      refine SX.region ?_
      refine SXL.add rfl rfl (by omega) ?_
      refine SXL.move rfl ?_
      refine SXL.nil ?_
      refine thenQ.normal ?_
      refine ⟨k + 1, Meets.mk _ ⟨rfl, trivial⟩ ⟨rfl, rfl, rfl, trivial⟩ rfl, ?_, (by omega)⟩
      refine ⟨by omega, fun i hi => ?_⟩
      by_cases e : i = k
      · subst e; exact Decidable.not_not.1 c13
      · exact hall i (by omega)
  · refine SX.exit ?_
    refine thenQ.exit ?_
    refine thenQ.exit ?_
    refine blockQ.exit ?_
    refine thenQ.normal ?_
    refine SX.seq ?_
    refine SX.region ?_
    refine SXL.assign rfl ?_
    refine SXL.nil ?_
    refine thenQ.normal ?_
    refine SX.ret ?_
    refine retQ.one (ResAt.tmp rfl) ?_
    rw [if_pos ((ck_iff s).2 fun i hi => hall i (by omega))]
theorem both_any (a b c d : Int) (w : World) (hg : Gl w) :
    CallsR Tryd.prog 116 [.agg ⟨[.int .i64 a, .int .i64 b]⟩, .agg ⟨[.int .i64 c, .int .i64 d]⟩] w (fun v _ => v = spanV (bothP a b c d)) := by
  refine CallsR.of_SX (n := 24) (rs := [.cell 4 23]) Tryd.func116 rfl rfl rfl rfl ?_
  show SX _ _ _ ⟨[(0, .agg ⟨[.int .i64 a, .int .i64 b]⟩), (1, .agg ⟨[.int .i64 c, .int .i64 d]⟩)], [], []⟩
  refine SX.seq ?_
  refine SX.region ?_
  refine SXL.box rfl rfl ?_; intro b0
  refine SXL.box rfl rfl ?_; intro b1
  refine SXL.alloc zp_23 ?_; intro b2
  refine SXL.nil ?_
  refine thenQ.normal ?_
  refine SX.seq ?_
  refine SX.region ?_
  refine SXL.fieldAddr fp_23_0 rfl ?_
  refine SXL.load1o 0 sh_3 rfl rfl rfl ?_
  refine SXL.fieldAddr fp_23_0 rfl ?_
  refine SXL.load1o 1 sh_3 rfl rfl rfl ?_
  refine SXL.max rfl rfl ?_
  refine SXL.fieldAddr fp_23_1 rfl ?_
  refine SXL.load1o 0 sh_3 rfl rfl rfl ?_
  refine SXL.fieldAddr fp_23_1 rfl ?_
  refine SXL.load1o 1 sh_3 rfl rfl rfl ?_
  refine SXL.min rfl rfl ?_
  refine SXL.buildS pl_23 zp_23 rfl rfl ?_
  refine SXL.alloc zp_23 ?_; intro b3
  refine SXL.store 3 sz_23 rfl rfl rfl rfl rfl rfl ?_
  refine SXL.nil ?_
  refine thenQ.normal ?_
  refine SX.seq ?_
  refine SX.seq ?_
  refine SX.region ?_
  refine SXL.fieldAddr fp_23_0 rfl ?_
  refine SXL.load1o 3 sh_3 rfl rfl rfl ?_
  refine SXL.fieldAddr fp_23_1 rfl ?_
  refine SXL.load1o 3 sh_3 rfl rfl rfl ?_
  refine SXL.gtr rfl rfl ?_
  refine SXL.nil ?_
  refine thenQ.normal ?_
  refine SX.condP rfl (fun c21 => ?_) (fun c21 => ?_)
  · refine SX.seq ?_
    refine SX.region ?_
    refine SXL.loadN sh_23 rfl (hg.memN _) rfl ?_
    refine SXL.store 2 sz_23 rfl rfl rfl rfl rfl rfl ?_
    refine SXL.nil ?_
    refine thenQ.normal ?_
    refine SX.ret ?_
    refine thenQ.ret ?_
    refine retQ.one (ResAt.cellNo 2 sh_23 rfl rfl rfl) ?_
    rw [bothP, if_pos c21]; rfl
  · refine SX.skip ?_
    refine thenQ.normal ?_
    refine SX.seq ?_
    refine SX.region ?_
    refine SXL.loadNo 3 sh_23 rfl rfl rfl ?_
    refine SXL.store 2 sz_23 rfl rfl rfl rfl rfl rfl ?_
    refine SXL.nil ?_
    refine thenQ.normal ?_
    refine SX.ret ?_
    refine retQ.one (ResAt.cellNo 2 sh_23 rfl rfl rfl) ?_
    rw [bothP, if_neg c21]; rfl
theorem reads_any (s : Sp) (bo ro : Option Addr) (bc rc : Nat) (x : Rd) (h1 : Spn s.a0 s.a1 1 600) (h2 : Spn x.s0 x.s1 0 99) (h3 : Wi x.bu 1 40) (h4 : 0 < x.s1) (_h5 : Wi s.most 0 100) (w : World) (hg : Gl w) :
    CallsR Tryd.prog 81 [.agg ⟨[.int .i64 s.weeks, .int .i64 s.most, .int .i64 s.fall, .int .i64 s.a0, .int .i64 s.a1, .int .i64 s.w0, .int .i64 s.w1, (.slice bo s.book.length bc), (.slice ro s.reads.length rc)]⟩, .agg ⟨x.cells⟩] w (fun v _ => v = spanV (readsP s x)) := by
  have m1 := mul2 (a := x.s1) (b := s.a1) (A := 99) (B := 600) (by omega) (by omega) (by omega) (by omega)
  have m2 := mul2 (a := x.s0) (b := s.a0) (A := 99) (B := 600) (by omega) (by omega) (by omega) (by omega)
  have m3 := Int.mul_pos h4 (show 0 < s.a1 by omega)
  refine CallsR.of_SX (n := 49) (rs := [.cell 4 23]) Tryd.func81 rfl rfl rfl rfl ?_
  show SX _ _ _ ⟨[(0, .agg ⟨[.int .i64 s.weeks, .int .i64 s.most, .int .i64 s.fall, .int .i64 s.a0, .int .i64 s.a1, .int .i64 s.w0, .int .i64 s.w1, (.slice bo s.book.length bc), (.slice ro s.reads.length rc)]⟩), (1, .agg ⟨x.cells⟩)], [], []⟩
  refine SX.seq ?_
  refine SX.region ?_
  refine SXL.box rfl rfl ?_; intro b0
  refine SXL.box rfl rfl ?_; intro b1
  refine SXL.alloc zp_23 ?_; intro b2
  refine SXL.nil ?_
  refine thenQ.normal ?_
  refine SX.seq ?_
  refine SX.region ?_
  refine SXL.fieldAddr fp_54_2 rfl ?_
  refine SXL.load1o 1 sh_3 rfl rfl rfl ?_
  refine SXL.mul rfl rfl (by omega) ?_
  refine SXL.assign rfl ?_
  refine SXL.nil ?_
  refine thenQ.normal ?_
  refine SX.seq ?_
  refine SX.draw 16 (by kernel_rfl) (by kernel_rfl) {} ?_
  refine SXA.take 0 16 rfl (by kernel_rfl) rfl ?_
  refine SXL.fieldAddr fp_54_3 rfl ?_
  refine SXL.fieldAddr fp_23_1 rfl ?_
  refine SXL.load1o 1 sh_3 rfl rfl rfl ?_
  refine SXL.fieldAddr fp_27_3 rfl ?_
  refine SXL.fieldAddr fp_23_1 rfl ?_
  refine SXL.load1o 0 sh_3 rfl rfl rfl ?_
  refine SXL.mul rfl rfl (by omega) ?_
  refine SXL.fieldAddr fp_54_3 rfl ?_
  refine SXL.fieldAddr fp_23_0 rfl ?_
  refine SXL.load1o 1 sh_3 rfl rfl rfl ?_
  refine SXL.fieldAddr fp_27_3 rfl ?_
  refine SXL.fieldAddr fp_23_0 rfl ?_
  refine SXL.load1o 0 sh_3 rfl rfl rfl ?_
  refine SXL.mul rfl rfl (by omega) ?_
  refine SXL.assign rfl ?_
  refine SXL.assign rfl ?_
  refine SXL.nil ⟨rfl, rfl, rfl, ?_⟩
  refine SXA.done (by kernel_rfl) ?_
  refine SXL.nil ?_
  refine thenQ.normal ?_
  refine SX.seq ?_
  refine SX.draw 10 (by kernel_rfl) (by kernel_rfl) {} ?_
  refine SXA.take 0 9 rfl (by kernel_rfl) rfl ?_
  refine SXL.move rfl ?_
  refine SXL.move rfl ?_
  refine SXL.add rfl rfl (by omega) ?_
  refine SXL.sub rfl rfl (by omega) ?_
  refine SXL.move rfl ?_
  refine SXL.quo rfl rfl (by omega) ?_
  refine SXL.fieldAddr fp_27_1 rfl ?_
  refine SXL.load1o 0 sh_3 rfl rfl rfl ?_
  refine SXL.buildS pl_23 zp_23 rfl rfl ?_
  refine SXL.nil ⟨rfl, rfl, rfl, ?_⟩
  refine SXA.all [9] (by kernel_rfl) rfl ⟨⟨?_, rfl⟩, trivial⟩
  refine (show SXL _ _ [_] _ _ from ?_)
  refine SXL.alloc zp_23 ?_; intro b3
  refine SXL.nil (stepQ.mk _ rfl rfl ?_)
  refine SXA.done (by kernel_rfl) ?_
  refine SXL.store 3 sz_23 rfl rfl rfl rfl rfl rfl ?_
  refine SXL.nil ?_
  refine thenQ.normal ?_
  refine SX.cutG (α := Unit) [2, 4, 8] rfl (fun _u => []) (fun _u => [(3, (b3, .cells ⟨[.int .i64 ((3600 * x.bu + x.s1 * s.a1 - 1) / (x.s1 * s.a1)), .int .i64 (if 0 < x.s0 * s.a0 then min s.most ((3600 * x.bu) / (x.s0 * s.a0)) else s.most)]⟩ 23 (0, 0)))]) (fun _u => True) ?_ ?_
  · refine SX.seq ?_
    refine SX.region ?_
    refine SXL.move rfl ?_
    refine SXL.gtr rfl rfl ?_
    refine SXL.nil ?_
    refine thenQ.normal ?_
    refine SX.condP rfl (fun c36 => ?_) (fun c36 => ?_)
    · refine SX.draw 7 (by kernel_rfl) (by kernel_rfl) {} ?_
      refine SXA.take 0 7 rfl (by kernel_rfl) rfl ?_
      refine SXL.fieldAddr fp_23_1 rfl ?_
      refine SXL.load1o 3 sh_3 rfl rfl rfl ?_
      refine SXL.move rfl ?_
      refine SXL.move rfl ?_
      refine SXL.quo rfl rfl (by omega) ?_
      refine SXL.min rfl rfl ?_
      refine SXL.fieldAddr fp_23_1 rfl ?_
      refine SXL.nil ⟨rfl, rfl, rfl, ?_⟩
      refine SXA.done (by kernel_rfl) ?_
      refine SXL.store 3 sz_3 rfl rfl rfl rfl rfl rfl ?_
      refine SXL.nil ?_
      refine thenQ.normal ?_
      refine ⟨(), Meets.mk _ trivial ⟨rfl, rfl, rfl, trivial⟩ (by first | (rw [if_pos c36]; rfl) | (rw [if_neg c36]; rfl)), trivial⟩
    · refine SX.skip ?_
      refine thenQ.normal ?_
      refine ⟨(), Meets.mk _ trivial ⟨rfl, rfl, rfl, trivial⟩ (by first | (rw [if_pos c36]; rfl) | (rw [if_neg c36]; rfl)), trivial⟩
  rintro _ _
  refine SX.seq ?_
  refine SX.region ?_
  refine SXL.loadNo 3 sh_23 rfl rfl rfl ?_
  refine SXL.fieldAddr fp_27_1 rfl ?_
  refine SXL.load1o 0 sh_3 rfl rfl rfl ?_
  refine SXL.buildS pl_23 zp_23 rfl rfl ?_
  refine SXL.call1 (spanV (bothP ((3600 * x.bu + x.s1 * s.a1 - 1) / (x.s1 * s.a1)) (if 0 < x.s0 * s.a0 then min s.most ((3600 * x.bu) / (x.s0 * s.a0)) else s.most) (0) (s.most))) fn_116 rfl (fun w hI => both_any _ _ _ _ _ (hg.inv hI)) ?_
  refine SXL.store 2 sz_23 rfl rfl rfl rfl rfl rfl ?_
  refine SXL.nil ?_
  refine thenQ.normal ?_
  refine SX.ret ?_
  refine retQ.one (ResAt.cellNo 2 sh_23 rfl rfl rfl) ?_
  first | rfl | assumption
theorem flowing_any (s : Sp) (bo ro : Option Addr) (bc rc : Nat) (hv : SpP s) (w : World) (hg : Gl w) (hs : SpAt w s bo ro) :
    CallsR Tryd.prog 72 [.agg ⟨[.int .i64 s.weeks, .int .i64 s.most, .int .i64 s.fall, .int .i64 s.a0, .int .i64 s.a1, .int .i64 s.w0, .int .i64 s.w1, (.slice bo s.book.length bc), (.slice ro s.reads.length rc)]⟩] w (fun v _ => v = .agg ⟨watC s bo ro bc rc (flL s)⟩) := by
  have hH := hv.1
  unfold HeadP at hH
  refine CallsR.of_SX (n := 43) (rs := [.cell 2 117]) Tryd.func72 rfl rfl rfl rfl ?_
  show SX _ _ _ ⟨[(0, .agg ⟨[.int .i64 s.weeks, .int .i64 s.most, .int .i64 s.fall, .int .i64 s.a0, .int .i64 s.a1, .int .i64 s.w0, .int .i64 s.w1, (.slice bo s.book.length bc), (.slice ro s.reads.length rc)]⟩)], [], []⟩
  refine SX.seq ?_
  refine SX.region ?_
  refine SXL.box rfl rfl ?_; intro b0
  refine SXL.alloc zp_117 ?_; intro b1
  refine SXL.nil ?_
  refine thenQ.normal ?_
  refine SX.seq ?_
  refine SX.region ?_
  refine SXL.loadNo 0 sh_27 rfl rfl rfl ?_
  refine SXL.buildS pl_117 zp_117 rfl rfl ?_
  refine SXL.alloc zp_117 ?_; intro b2
  refine SXL.store 2 sz_117 rfl rfl rfl rfl rfl rfl ?_
  refine SXL.nil ?_
  refine thenQ.normal ?_
  refine SX.seq ?_
  refine SX.seq ?_
  refine SX.region ?_
  refine SXL.fieldAddr fp_27_0 rfl ?_
  refine SXL.load1o 0 sh_3 rfl rfl rfl ?_
  refine SXL.move rfl ?_
  refine SXL.nil ?_
  refine thenQ.normal ?_
  refine SX.block ?_
  refine SX.loopG (α := Nat) [1, 2, 3, 10] rfl (fun k => [(11, .int .i64 ((k : Int)))]) (fun k => [(2, (b2, .cells ⟨watC s bo ro bc rc (fl0 s k)⟩ 117 (0, 0)))]) (fun k => k ≤ s.weeks.toNat) (fun k => s.weeks.toNat - k) 0 (Nat.zero_le _) ⟨rfl, trivial⟩ rfl ?_
  rintro k hk
  refine SX.seq ?_
  refine SX.region ?_
  refine SXL.lss rfl rfl ?_
  refine SXL.nil ?_
  refine thenQ.normal ?_
  refine SX.seq ?_
  refine SX.condP rfl (fun c1 => ?_) (fun c1 => ?_)
  · refine SX.skip ?_
    refine thenQ.normal ?_
    refine SX.seq ?_
    refine SX.block ?_
    refine SX.seq ?_
    refine SX.region ?_
    refine SXL.move rfl ?_
    refine SXL.assign rfl ?_
    refine SXL.nil ?_
    refine thenQ.normal ?_
    refine SX.region ?_
    refine SXL.move rfl ?_
    refine SXL.fieldAddr fp_27_1 rfl ?_
    refine SXL.load1o 0 sh_3 rfl rfl rfl ?_
    refine SXL.buildS pl_23 zp_23 rfl rfl ?_
    refine SXL.fieldAddr fp_117_1 rfl ?_
    refine SXL.indexA el_114 rfl rfl (by omega) ?_
    refine SXL.store 2 sz_23 rfl rfl rfl rfl rfl (putApp 9 rfl (ints_put2' (p := (0, s.most)) (i := k) rfl (by simp only [fl0_len]; omega)) (by omega)) ?_
    refine SXL.nil ?_
    refine blockQ.normal ?_
    refine thenQ.normal ?_
    refine SX.region ?_
    refine SXL.add rfl rfl (by omega) ?_
    refine SXL.move rfl ?_
    refine SXL.nil ?_
    refine thenQ.normal ?_
    refine ⟨k + 1, Meets.mk _ ⟨rfl, trivial⟩ ⟨rfl, rfl, rfl, rfl, trivial⟩ rfl, (by omega), (by omega)⟩
  · refine SX.exit ?_
    refine thenQ.exit ?_
    refine thenQ.exit ?_
    refine blockQ.exit ?_
    refine thenQ.normal ?_
    refine SX.seq ?_
    refine SX.seq ?_
    obtain rfl : k = s.weeks.toNat := by omega
    refine SX.region ?_
    refine SXL.fieldAddr fp_27_6 rfl ?_
    refine SXL.load1o 0 sh_25 rfl rfl rfl ?_
    refine SXL.len is_25 rfl ?_
    refine SXL.move rfl ?_
    refine SXL.nil ?_
    refine thenQ.normal ?_
    refine SX.block ?_
    refine SX.loopG (α := Nat) [1, 2, 3, 22, 23] rfl (fun k => [(24, .int .i64 ((k : Int)))]) (fun k => [(2, (b2, .cells ⟨watC s bo ro bc rc (flTo s k)⟩ 117 (0, 0)))]) (fun k => k ≤ s.reads.length) (fun k => s.reads.length - k) 0 (Nat.zero_le _) ⟨rfl, trivial⟩ rfl ?_
    rintro k hk2
    refine SX.seq ?_
    refine SX.region ?_
    refine SXL.lss rfl rfl ?_
    refine SXL.nil ?_
    refine thenQ.normal ?_
    refine SX.seq ?_
    refine SX.condP rfl (fun c2 => ?_) (fun c2 => ?_)
    · refine SX.skip ?_
      refine thenQ.normal ?_
      refine SX.seq ?_
      refine SX.block ?_
      refine SX.seq ?_
      obtain ⟨b, o, ha, hm⟩ := hs.readD (i := k) (by omega)
      have hrd := ((reads_iff s).1 hv.2.2 k (by omega)).1
      refine SX.region ?_
      refine SXL.indexR el_25 rfl rfl ha (by omega) ?_
      refine SXL.loadN sh_54 rfl (hm _) rfl ?_
      refine SXL.alloc zp_54 ?_; intro b3
      refine SXL.store 3 sz_54 rfl rfl rfl rfl rfl rfl ?_
      refine SXL.nil ?_
      refine thenQ.normal ?_
      refine SX.draw 13 (by kernel_rfl) (by kernel_rfl) {} ?_
      refine SXA.take 0 13 rfl (by kernel_rfl) rfl ?_
      refine SXL.fieldAddr fp_54_1 rfl ?_
      refine SXL.load1o 3 sh_3 rfl rfl rfl ?_
      refine SXL.fieldAddr fp_54_1 rfl ?_
      refine SXL.load1o 3 sh_3 rfl rfl rfl ?_
      refine SXL.fieldAddr fp_117_1 rfl ?_
      refine SXL.indexA el_114 rfl rfl (by omega) ?_
      refine SXL.loadNo 2 sh_23 rfl rfl (takeApp 9 rfl (ints_take2' (i := (s.reads.getD k default).wk.toNat) rfl (by simp only [flTo_len]; omega)) (by omega)) ?_
      refine SXL.loadNo 0 sh_27 rfl rfl rfl ?_
      refine SXL.loadNo 3 sh_54 rfl rfl rfl ?_
      refine SXL.call1 (spanV (readsP s (s.reads.getD k default))) fn_81 rfl (fun w hI => reads_any s bo ro bc rc (s.reads.getD k default) (by omega) (by omega) (by omega) (by omega) (by omega) _ (hg.inv hI)) ?_
      refine SXL.call1 (spanV (bothP (Lo (flTo s k) (s.reads.getD k default).wk.toNat) (Hi (flTo s k) (s.reads.getD k default).wk.toNat) ((readsP s (s.reads.getD k default)).1) ((readsP s (s.reads.getD k default)).2))) fn_116 rfl (fun w hI => both_any _ _ _ _ _ (hg.inv hI)) ?_
      refine SXL.fieldAddr fp_117_1 rfl ?_
      refine SXL.indexA el_114 rfl rfl (by omega) ?_
      refine SXL.nil ⟨rfl, rfl, rfl, ?_⟩
      refine SXA.done (by kernel_rfl) ?_
      refine SXL.store 2 sz_23 rfl rfl rfl rfl rfl (putApp 9 rfl (ints_put2' (p := bothP (Lo (flTo s k) (s.reads.getD k default).wk.toNat) (Hi (flTo s k) (s.reads.getD k default).wk.toNat) (readsP s (s.reads.getD k default)).1 (readsP s (s.reads.getD k default)).2) (i := (s.reads.getD k default).wk.toNat) rfl (by simp only [flTo_len]; omega)) (by omega)) ?_
      refine SXL.nil ?_
      refine blockQ.normal ?_
      refine thenQ.normal ?_
      refine SX.region ?_
      refine SXL.add rfl rfl (by omega) ?_
      refine SXL.move rfl ?_
      refine SXL.nil ?_
      refine thenQ.normal ?_
      refine ⟨k + 1, Meets.mk _ ⟨rfl, trivial⟩ ⟨rfl, rfl, rfl, rfl, rfl, trivial⟩ rfl, (by omega), (by omega)⟩
    · refine SX.exit ?_
      refine thenQ.exit ?_
      refine thenQ.exit ?_
      refine blockQ.exit ?_
      refine thenQ.normal ?_
      refine SX.seq ?_
      obtain rfl : k = s.reads.length := by omega
      refine SX.region ?_
      refine SXL.loadNo 2 sh_117 rfl rfl (takeAt_full (watC_len (by simp))) ?_
      refine SXL.store 1 sz_117 rfl rfl rfl rfl (watC_len (by simp)) (putAt_all _ _ (watC_len (by simp))) ?_ (watC_one _ _ _ _ _ _)
      refine SXL.nil ?_
      refine thenQ.normal ?_
      refine SX.ret ?_
      refine retQ.one (ResAt.cellNo 1 sh_117 rfl rfl (takeAt_full (watC_len (by simp)))) ?_
      first | rfl | assumption
end Go.Proofs.YtknflipongbngaaDoor

/- Spans in rows; what a rain leaves, handed back. -/
namespace Go.S
open Go Go.X Go.RowKit
def pairs (M : List Int) (n : Nat) : List (List Value) := (List.range n).map fun i => [.int .i64 (Lo M i), .int .i64 (Hi M i)]
@[simp] theorem length_pairs (M : List Int) (n : Nat) : (pairs M n).length = n := by simp [pairs]
variable {w0 w : World} {own : X.Own}
theorem pairAt {ao : Option Addr} {M : List Int} {n : Nat} (h : RowsAt w ao 2 (pairs M n)) {i : Nat} (hi : i < n) :
    ∃ b o, ao = some ⟨b, o, none⟩ ∧ ∀ own, Mem w own b (o + i * 2) [.int .i64 (Lo M i), .int .i64 (Hi M i)] := h.get (by simp [pairs, hi])
theorem ownPairs (hI : Inv w0 own w) {i b : Nat} {M : List Int} {E : TypeId} {fz : Nat × Nat} (hi : own[i]? = some (b, .cells ⟨ints M⟩ E fz)) {n : Nat} (hM : n * 2 ≤ M.length) : RowsAt w (some ⟨b, 0, none⟩) 2 (pairs M n) :=
  RowsAt.ofOwn hI hi fun k r hk j u hj => by
    simp only [pairs, List.getElem?_map, Option.map_eq_some_iff] at hk
    obtain ⟨i', hi', rfl⟩ := hk
    obtain ⟨hlt, he⟩ := List.getElem?_eq_some_iff.1 hi'
    simp at he hlt
    subst he
    match j, hj with
    | 0, hj => simp at hj; subst hj; exact intsAtX rfl (by omega)
    | 1, hj => simp at hj; subst hj; exact intsAtX rfl (by omega)
    | j + 2, hj => simp at hj
/-- What a rain leaves, handed back: all that is told if there is no truth is that there is none. -/
structure AfterR (s : Sp) (L : List Int) (rain : Int) (v : Value) : Prop where
  ex : ∃ M : List Int, M.length = 20 ∧ (lvB s L rain → M = ilv (lvL s L rain)) ∧ v = .tuple ⟨[.agg ⟨ints M⟩, .bool (decide (lvB s L rain))]⟩
end Go.S
namespace Go.S
open Go Go.X
theorem span_none {M : List Int} {k : Nat} : ([1, 0] = [Lo M k, Hi M k]) ↔ NoneAt M k := by
  unfold NoneAt
  constructor
  · intro h
    obtain ⟨h1, h2⟩ := List.cons.inj h
    exact ⟨h1.symm, (List.cons.inj h2).1.symm⟩
  · rintro ⟨h1, h2⟩; rw [h1, h2]
theorem after_bool {M : List Int} {n : Nat} {p : Prop} [Decidable p] (h : (∀ w, w < n → ¬NoneAt M w) ↔ p) : decide (¬0 ≤ idxF (fun k => [1, 0] = [Lo M k, Hi M k]) n) = decide p := by
  refine decide_eq_decide.2 ?_
  rw [← h, idxF_nonneg]
  constructor
  · intro hn w hw hN; exact hn ⟨w, hw, span_none.2 hN⟩
  · rintro hn ⟨w, hw, hN⟩; exact hn w hw (span_none.1 hN)
end Go.S

/- The walks of functions. -/
namespace Go.Proofs.YtknflipongbngaaDoor
open Go.X Go.S Go.RowKit
theorem indexSpans (M : List Int) (n : Nat) (a b : Int) (ao : Option Addr) (c : Nat) (hn : n ≤ 1000) (w : World) (h : RowsAt w ao 2 (pairs M n)) :
    CallsR Tryd.prog 134 [.slice ao n c, .agg ⟨[.int .i64 a, .int .i64 b]⟩] w (fun v _ => v = .int .i64 (idxF (fun k => [a, b] = [Lo M k, Hi M k]) n)) := by
  refine CallsR.of_SX (n := 19) (rs := [.tmp 4]) Tryd.func134 rfl rfl rfl rfl ?_
  show SX _ _ _ ⟨[(0, .slice ao n c), (1, .agg ⟨[.int .i64 a, .int .i64 b]⟩)], [], []⟩
  refine SX.seq ?_
  refine SX.region ?_
  refine SXL.box rfl rfl ?_; intro b0
  refine SXL.assign rfl ?_
  refine SXL.nil ?_
  refine thenQ.normal ?_
  refine SX.seq ?_
  refine SX.seq ?_
  refine SX.region ?_
  refine SXL.move rfl ?_
  refine SXL.len is_179 rfl ?_
  refine SXL.move rfl ?_
  refine SXL.nil ?_
  refine thenQ.normal ?_
  refine SX.block ?_
  refine SX.loopG (α := Nat) [0, 3, 4, 7] rfl (fun k => [(8, .int .i64 ((k : Int)))]) (fun k => []) (fun k => k ≤ n ∧ ∀ i, i < k → ¬[a, b] = [Lo M i, Hi M i]) (fun k => n - k) 0 ⟨Nat.zero_le _, fun _ h => absurd h (Nat.not_lt_zero _)⟩ ⟨rfl, trivial⟩ rfl ?_
  rintro k ⟨hk, hall⟩
  refine SX.seq ?_
  refine SX.region ?_
  refine SXL.lss rfl rfl ?_
  refine SXL.nil ?_
  refine thenQ.normal ?_
  refine SX.seq ?_
  refine SX.condP rfl (fun c9 => ?_) (fun c9 => ?_)
  · refine SX.skip ?_
    refine thenQ.normal ?_
    refine SX.seq ?_
    refine SX.block ?_
    refine SX.seq ?_
    refine SX.region ?_
    refine SXL.move rfl ?_
    refine SXL.assign rfl ?_
    refine SXL.nil ?_
    refine thenQ.normal ?_
    refine SX.seq ?_
    obtain ⟨b2, o, ha, hm⟩ := pairAt h (i := k) (by omega)
    refine SX.draw 6 (by kernel_rfl) (by kernel_rfl) {} ?_
    refine SXA.take 0 6 rfl (by kernel_rfl) rfl ?_
    refine SXL.loadNo 0 sh_23 rfl rfl rfl ?_
    refine SXL.move rfl ?_
    refine SXL.move rfl ?_
    refine SXL.indexR el_179 rfl rfl ha (by omega) ?_
    refine SXL.loadN sh_23 rfl (hm _) rfl ?_
    refine SXL.eqlV (p := [a, b] = [Lo M k, Hi M k]) (u := .agg ⟨ints ([a, b])⟩) (v := .agg ⟨ints ([Lo M k, Hi M k])⟩) rfl rfl (run_eql_ints eq_23 eg_23 sh_23 rfl rfl) ?_
    refine SXL.nil ⟨rfl, rfl, rfl, ?_⟩
    refine SXA.done (by kernel_rfl) ?_
    refine SXL.nil ?_
    refine thenQ.normal ?_
    refine SX.condP rfl (fun c16 => ?_) (fun c16 => ?_)
    · refine SX.seq ?_
      refine SX.region ?_
      refine SXL.move rfl ?_
      refine SXL.assign rfl ?_
      refine SXL.nil ?_
      refine thenQ.normal ?_
      refine SX.ret ?_
      refine blockQ.ret ?_
      refine thenQ.ret ?_
      refine thenQ.ret ?_
      refine blockQ.ret ?_
      refine thenQ.ret ?_
      refine retQ.one (ResAt.tmp rfl) ?_
      exact congrArg (Value.int .i64) (idxF_some (p := fun k => [a, b] = [Lo M k, Hi M k]) (by omega) c16 hall).symm
    · refine SX.skip ?_
      refine blockQ.normal ?_
      refine thenQ.normal ?_
      refine SX.region ?_
      refine SXL.add rfl rfl (by omega) ?_
      refine SXL.move rfl ?_
      refine SXL.nil ?_
      refine thenQ.normal ?_
      refine ⟨k + 1, Meets.mk _ ⟨rfl, trivial⟩ ⟨rfl, rfl, rfl, rfl, trivial⟩ rfl, ?_, (by omega)⟩
      refine ⟨by omega, fun i hi => ?_⟩
      by_cases e : i = k
      · subst e; exact c16
      · exact hall i (by omega)
  · refine SX.exit ?_
    refine thenQ.exit ?_
    refine thenQ.exit ?_
    refine blockQ.exit ?_
    refine thenQ.normal ?_
    refine SX.seq ?_
    refine SX.region ?_
    refine SXL.assign rfl ?_
    refine SXL.nil ?_
    refine thenQ.normal ?_
    refine SX.ret ?_
    refine retQ.one (ResAt.tmp rfl) ?_
    exact congrArg (Value.int .i64) (idxF_none (p := fun k => [a, b] = [Lo M k, Hi M k]) fun i hi => hall i (by omega)).symm
theorem containsSpans (M : List Int) (n : Nat) (a b : Int) (ao : Option Addr) (c : Nat) (hn : n ≤ 1000) (w : World) (h : RowsAt w ao 2 (pairs M n)) :
    CallsR Tryd.prog 130 [.slice ao n c, .agg ⟨[.int .i64 a, .int .i64 b]⟩] w (fun v _ => v = .bool (decide (0 ≤ idxF (fun k => [a, b] = [Lo M k, Hi M k]) n))) := by
  refine CallsR.of_SX (n := 9) (rs := [.tmp 4]) Tryd.func130 rfl rfl rfl rfl ?_
  show SX _ _ _ ⟨[(0, .slice ao n c), (1, .agg ⟨[.int .i64 a, .int .i64 b]⟩)], [], []⟩
  refine SX.seq ?_
  refine SX.region ?_
  refine SXL.box rfl rfl ?_; intro b0
  refine SXL.assign rfl ?_
  refine SXL.nil ?_
  refine thenQ.normal ?_
  refine SX.seq ?_
  refine SX.region ?_
  refine SXL.move rfl ?_
  refine SXL.loadNo 0 sh_23 rfl rfl rfl ?_
  refine SXL.call1 (.int .i64 (idxF (fun k => [a, b] = [Lo M k, Hi M k]) n)) fn_134 rfl (fun w hI => indexSpans M n a b ao c hn _ (h.inv hI)) ?_
  refine SXL.geq rfl rfl ?_
  refine SXL.assign rfl ?_
  refine SXL.nil ?_
  refine thenQ.normal ?_
  refine SX.ret ?_
  refine retQ.one (ResAt.tmp rfl) ?_
  first | rfl | assumption
set_option maxHeartbeats 2000000 in
theorem after_any (s : Sp) (bo ro : Option Addr) (bc rc : Nat) (R : List Int) (L : List Int) (hv : SpP s) (hW : RelW s R L) (rain : Int) (w : World) (hg : Gl w) (hs : SpAt w s bo ro) :
    CallsR Tryd.prog 118 [.agg ⟨watC s bo ro bc rc R⟩, .int .i64 rain] w (fun v _ => AfterR s L rain v) := by
  have hH := hv.1
  unfold HeadP at hH
  have hR := hW.lr
  refine CallsR.of_SX (n := 120) (rs := [.cell 4 114, .tmp 5]) Tryd.func118 rfl rfl rfl rfl ?_
  show SX _ _ _ ⟨[(0, .agg ⟨watC s bo ro bc rc R⟩), (1, .int .i64 rain)], [], []⟩
  refine SX.seq ?_
  refine SX.region ?_
  refine SXL.box rfl rfl ?_; intro b0
  refine SXL.alloc zp_114 ?_; intro b1
  refine SXL.assign rfl ?_
  refine SXL.nil ?_
  refine thenQ.normal ?_
  refine SX.seq ?_
  refine SX.region ?_
  refine SXL.fieldAddr fp_117_1 rfl ?_
  refine SXL.loadNo 0 sh_114 rfl rfl (takeApp 9 rfl (takeAt_full (k := 20) (by simp [hR])) rfl) ?_
  refine SXL.alloc zp_114 ?_; intro b2
  refine SXL.store 2 sz_114 rfl rfl rfl rfl (by simp [hR]) (putAt_all _ _ (by simp [hR])) ?_ (ints_isOne _)
  refine SXL.nil ?_
  refine thenQ.normal ?_
  refine SX.seq ?_
  refine SX.seq ?_
  refine SX.region ?_
  refine SXL.fieldAddr fp_117_0 rfl ?_
  refine SXL.fieldAddr fp_27_5 rfl ?_
  refine SXL.load1o 0 sh_24 rfl rfl rfl ?_
  refine SXL.len is_24 rfl ?_
  refine SXL.move rfl ?_
  refine SXL.nil ?_
  refine thenQ.normal ?_
  refine SX.block ?_
  refine SX.loopG (α := Nat) [1, 2, 4, 5, 6, 17, 18] rfl (fun k => [(19, .int .i64 ((k : Int)))]) (fun k => [(2, (b2, .cells ⟨ints (slTo s R rain k)⟩ 114 (0, 0)))]) (fun k => k ≤ s.book.length) (fun k => s.book.length - k) 0 (Nat.zero_le _) ⟨rfl, trivial⟩ rfl ?_
  rintro k hk
  have hl := slTo_len s R rain k
  have hSk := slTo_sb hv hR hW.sb rain k hk
  refine SX.seq ?_
  refine SX.region ?_
  refine SXL.lss rfl rfl ?_
  refine SXL.nil ?_
  refine thenQ.normal ?_
  refine SX.seq ?_
  refine SX.condP rfl (fun c20 => ?_) (fun c20 => ?_)
  · refine SX.skip ?_
    refine thenQ.normal ?_
    refine SX.seq ?_
    refine SX.block ?_
    refine SX.seq ?_
    obtain ⟨b, o, ha, hm⟩ := hs.lineD (i := k) (by omega)
    have hln := bookD hv.2.1 (k := k) (by omega)
    refine SX.region ?_
    refine SXL.indexR el_24 rfl rfl ha (by omega) ?_
    refine SXL.loadN sh_61 rfl (hm _) rfl ?_
    refine SXL.alloc zp_61 ?_; intro b3
    refine SXL.store 3 sz_61 rfl rfl rfl rfl rfl rfl ?_
    refine SXL.nil ?_
    refine thenQ.normal ?_
    refine SX.seq ?_
    refine SX.region ?_
    refine SXL.fieldAddr fp_61_0 rfl ?_
    refine SXL.fieldAddr fp_23_0 rfl ?_
    refine SXL.load1o 3 sh_3 rfl rfl rfl ?_
    refine SXL.fieldAddr fp_61_0 rfl ?_
    refine SXL.fieldAddr fp_23_1 rfl ?_
    refine SXL.load1o 3 sh_3 rfl rfl rfl ?_
    refine SXL.move rfl ?_
    refine SXL.buildSlice et_35 zp_3 rfl rfl rfl rfl ?_; intro b4
    refine SXL.call1 (.bool (decide (Wi (rain) ((s.book.getD k default).r0) ((s.book.getD k default).r1)))) fn_78 rfl (fun w hI => in1_own hI 4 (rain) ((s.book.getD k default).r0) ((s.book.getD k default).r1) rfl) ?_
    refine SXL.nil ?_
    refine thenQ.normal ?_
    refine SX.condP rfl (fun c31 => ?_) (fun c31 => ?_)
    · refine SX.draw 10 (by kernel_rfl) (by kernel_rfl) {} ?_
      refine SXA.take 0 10 rfl (by kernel_rfl) rfl ?_
      refine SXL.fieldAddr fp_61_1 rfl ?_
      refine SXL.load1o 3 sh_3 rfl rfl rfl ?_
      refine SXL.fieldAddr fp_61_1 rfl ?_
      refine SXL.load1o 3 sh_3 rfl rfl rfl ?_
      refine SXL.indexA el_114 rfl rfl (by omega) ?_
      refine SXL.loadNo 2 sh_23 rfl rfl (ints_take2' (M := (slTo s R rain k)) (i := (s.book.getD k default).wk.toNat) (by omega) (by omega)) ?_
      refine SXL.fieldAddr fp_61_2 rfl ?_
      refine SXL.loadNo 3 sh_23 rfl rfl rfl ?_
      refine SXL.call1 (spanV (bothP (Lo (slTo s R rain k) (s.book.getD k default).wk.toNat) (Hi (slTo s R rain k) (s.book.getD k default).wk.toNat) ((s.book.getD k default).g0) ((s.book.getD k default).g1))) fn_116 rfl (fun w hI => both_any _ _ _ _ _ (hg.inv hI)) ?_
      refine SXL.indexA el_114 rfl rfl (by omega) ?_
      refine SXL.nil ⟨rfl, rfl, rfl, ?_⟩
      refine SXA.done (by kernel_rfl) ?_
      refine SXL.store 2 sz_23 rfl rfl rfl rfl rfl (ints_put2' (M := (slTo s R rain k)) (i := (s.book.getD k default).wk.toNat) (p := bothP (Lo (slTo s R rain k) (s.book.getD k default).wk.toNat) (Hi (slTo s R rain k) (s.book.getD k default).wk.toNat) (s.book.getD k default).g0 (s.book.getD k default).g1) (by omega) (by omega)) ?_
      refine SXL.nil ?_
      refine blockQ.normal ?_
      refine thenQ.normal ?_
      refine SX.region ?_
      refine SXL.add rfl rfl (by omega) ?_
      refine SXL.move rfl ?_
      refine SXL.nil ?_
      refine thenQ.normal ?_
      refine ⟨k + 1, Meets.mk _ ⟨rfl, trivial⟩ ⟨rfl, rfl, rfl, rfl, rfl, rfl, rfl, trivial⟩ (by first | (rw [show slTo s R rain (k + 1) = _ from if_pos c31]; rfl) | (rw [show slTo s R rain (k + 1) = _ from if_neg c31]; rfl)), (by omega), (by omega)⟩
    · refine SX.skip ?_
      refine blockQ.normal ?_
      refine thenQ.normal ?_
      refine SX.region ?_
      refine SXL.add rfl rfl (by omega) ?_
      refine SXL.move rfl ?_
      refine SXL.nil ?_
      refine thenQ.normal ?_
      refine ⟨k + 1, Meets.mk _ ⟨rfl, trivial⟩ ⟨rfl, rfl, rfl, rfl, rfl, rfl, rfl, trivial⟩ (by first | (rw [show slTo s R rain (k + 1) = _ from if_pos c31]; rfl) | (rw [show slTo s R rain (k + 1) = _ from if_neg c31]; rfl)), (by omega), (by omega)⟩
  · refine SX.exit ?_
    refine thenQ.exit ?_
    refine thenQ.exit ?_
    refine blockQ.exit ?_
    refine thenQ.normal ?_
    refine SX.seq ?_
    refine SX.seq ?_
    obtain rfl : k = s.book.length := by omega
    refine SX.region ?_
    refine SXL.buildA ae_114 zp_114 rfl rfl ?_
    refine SXL.alloc zp_114 ?_; intro b3
    refine SXL.store 3 sz_114 rfl rfl rfl rfl rfl rfl ?_
    refine SXL.nil ?_
    refine thenQ.normal ?_
    refine SX.block ?_
    refine SX.loopG (α := Nat × List Int × List Int) [2, 4, 5, 6] rfl (fun ⟨bw, M, W⟩ => [(9, .pointer (some ⟨bw, 0, none⟩))]) (fun ⟨bw, M, W⟩ => [(2, (b2, .cells ⟨ints M⟩ 114 (0, 0))), (3, (bw, .cells ⟨ints W⟩ 114 (0, 0)))]) (fun ⟨bw, M, W⟩ => KeepP s.weeks.toNat s.fall (slTo s R rain s.book.length) M ∧ W.length = 20 ∧ ((∀ j, j < 10 → Lo W j = 0 ∧ Hi W j = 0) ∨ (Sb W ∧ M = psTo s.fall W (s.weeks.toNat - 1) ∧ Alive s.fall W (s.weeks.toNat - 1)))) (fun ⟨bw, M, W⟩ => (2 * (sumW M 10).toNat + if W = M then 0 else 1)) (b3, (slTo s R rain s.book.length), List.replicate 20 0) ⟨keep_start (by simp [hR]) (slTo_sb hv hR hW.sb rain _ (Nat.le_refl _)), by simp, .inl (by decide)⟩ ⟨rfl, trivial⟩ rfl ?_
    rintro ⟨bw, M, W⟩ ⟨hM, hWl, hWM⟩
    have hMl := hM.len
    refine SX.seq ?_
    refine SX.seq ?_
    refine SX.region ?_
    refine SXL.loadNo 3 sh_114 rfl rfl (takeAt_full (by simp [hWl])) ?_
    refine SXL.loadNo 2 sh_114 rfl rfl (takeAt_full (by simp [hMl])) ?_
    refine SXL.neqV (p := W ≠ M) (u := .agg ⟨ints (W)⟩) (v := .agg ⟨ints (M)⟩) rfl rfl (run_neq_ints eq_114 eg_114 sh_114 hWl hMl) ?_
    refine SXL.nil ?_
    refine thenQ.normal ?_
    refine SX.condP rfl (fun c46 => ?_) (fun c46 => ?_)
    · refine SX.skip ?_
      refine thenQ.normal ?_
      refine SX.seq ?_
      refine SX.block ?_
      refine SX.seq ?_
      refine SX.region ?_
      refine SXL.loadNo 2 sh_114 rfl rfl (takeAt_full (by simp [hMl])) ?_
      refine SXL.store 3 sz_114 rfl rfl rfl rfl (by simp [hMl]) (putAt_all _ _ (by simp [hMl, hWl])) ?_ (ints_isOne _)
      refine SXL.nil ?_
      refine thenQ.normal ?_
      refine SX.seq ?_
      refine SX.region ?_
      refine SXL.assign rfl ?_
      refine SXL.nil ?_
      refine thenQ.normal ?_
      refine SX.block ?_
      refine SX.loopG (α := Nat) [2, 4, 5, 6, 9] rfl (fun k => [(10, .int .i64 (((k : Int) + 1)))]) (fun k => [(2, (b2, .cells ⟨ints (psTo s.fall M k)⟩ 114 (0, 0)))]) (fun k => k ≤ s.weeks.toNat - 1 ∧ Alive s.fall M k) (fun k => s.weeks.toNat - 1 - k) 0 ⟨Nat.zero_le _, fun _ h => absurd h (Nat.not_lt_zero _)⟩ ⟨rfl, trivial⟩ rfl ?_
      rintro k ⟨hk, hal⟩
      have hKl : (psTo s.fall M k).length = 20 := by simp [hMl]
      refine SX.seq ?_
      refine SX.seq ?_
      refine SX.region ?_
      refine SXL.move rfl ?_
      refine SXL.fieldAddr fp_117_0 rfl ?_
      refine SXL.fieldAddr fp_27_0 rfl ?_
      refine SXL.load1o 0 sh_3 rfl rfl rfl ?_
      refine SXL.lss rfl rfl ?_
      refine SXL.nil ?_
      refine thenQ.normal ?_
      refine SX.condP rfl (fun c52 => ?_) (fun c52 => ?_)
      · refine SX.skip ?_
        refine thenQ.normal ?_
        refine SX.seq ?_
        refine SX.block ?_
        refine SX.seq ?_
        have hS := (ps_less (f := s.fall) hMl hM.sb k (by omega)).1
        have q0 := hS k (by omega)
        have q1 := hS (k + 1) (by omega)
        refine SX.draw 7 (by kernel_rfl) (by kernel_rfl) {} ?_
        refine SXA.take 0 7 rfl (by kernel_rfl) rfl ?_
        refine SXL.move rfl ?_
        refine SXL.sub rfl rfl (by omega) ?_
        refine SXL.indexA el_114 rfl rfl (by omega) ?_
        refine SXL.move rfl ?_
        refine SXL.indexA el_114 rfl rfl (by omega) ?_
        refine SXL.assign rfl ?_
        refine SXL.assign rfl ?_
        refine SXL.nil ⟨rfl, rfl, rfl, ?_⟩
        refine SXA.done (by kernel_rfl) ?_
        refine SXL.nil ?_
        refine thenQ.normal ?_
        refine SX.seq ?_
        refine SX.draw 19 (by kernel_rfl) (by kernel_rfl) {} ?_
        refine SXA.take 0 19 rfl (by kernel_rfl) rfl ?_
        refine SXL.move rfl ?_
        refine SXL.move rfl ?_
        refine SXL.nilCheck rfl ?_
        refine SXL.loadNo 2 sh_23 rfl rfl (ints_take2' (M := (psTo s.fall M k)) (i := k + 1) (by omega) (by omega)) ?_
        refine SXL.move rfl ?_
        refine SXL.nilCheck rfl ?_
        refine SXL.fieldAddr fp_23_0 rfl ?_
        refine SXL.load1o 2 sh_3 rfl rfl (at_lo (M := (psTo s.fall M k)) (i := k) (by omega) (by omega)) ?_
        refine SXL.fieldAddr fp_117_0 rfl ?_
        refine SXL.fieldAddr fp_27_2 rfl ?_
        refine SXL.load1o 0 sh_3 rfl rfl rfl ?_
        refine SXL.sub rfl rfl (by omega) ?_
        refine SXL.move rfl ?_
        refine SXL.nilCheck rfl ?_
        refine SXL.fieldAddr fp_23_1 rfl ?_
        refine SXL.load1o 2 sh_3 rfl rfl (at_hi (M := (psTo s.fall M k)) (i := k) (by omega) (by omega)) ?_
        refine SXL.buildS pl_23 zp_23 rfl rfl ?_
        refine SXL.call1 (spanV (bothP (Lo (psTo s.fall M k) (k + 1)) (Hi (psTo s.fall M k) (k + 1)) (Lo (psTo s.fall M k) k - s.fall) (Hi (psTo s.fall M k) k))) fn_116 rfl (fun w hI => both_any _ _ _ _ _ (hg.inv hI)) ?_
        refine SXL.nilCheck rfl ?_
        refine SXL.nil ⟨rfl, rfl, rfl, ?_⟩
        refine SXA.done (by kernel_rfl) ?_
        refine SXL.store 2 sz_23 rfl rfl rfl rfl rfl (ints_put2' (M := (psTo s.fall M k)) (i := k + 1) (p := (bothP (Lo (psTo s.fall M k) (k + 1)) (Hi (psTo s.fall M k) (k + 1)) (Lo (psTo s.fall M k) k - s.fall) (Hi (psTo s.fall M k) k))) (by omega) (by omega)) ?_
        refine SXL.nil ?_
        refine thenQ.normal ?_
        refine SX.seq ?_
        have hS1 := (step_less (f := s.fall) hKl hS (k := k) (by omega)).1
        have hl1 : (step1 s.fall (psTo s.fall M k) k).length = 20 := by simp [hMl]
        have u0 := hS1 k (by omega)
        have u1 := hS1 (k + 1) (by omega)
        refine SX.draw 19 (by kernel_rfl) (by kernel_rfl) {} ?_
        refine SXA.take 0 19 rfl (by kernel_rfl) rfl ?_
        refine SXL.move rfl ?_
        refine SXL.move rfl ?_
        refine SXL.nilCheck rfl ?_
        refine SXL.loadNo 2 sh_23 rfl rfl (ints_take2' (M := (step1 s.fall (psTo s.fall M k) k)) (i := k) (by omega) (by omega)) ?_
        refine SXL.move rfl ?_
        refine SXL.nilCheck rfl ?_
        refine SXL.fieldAddr fp_23_0 rfl ?_
        refine SXL.load1o 2 sh_3 rfl rfl (at_lo (M := (step1 s.fall (psTo s.fall M k) k)) (i := k + 1) (by omega) (by omega)) ?_
        refine SXL.move rfl ?_
        refine SXL.nilCheck rfl ?_
        refine SXL.fieldAddr fp_23_1 rfl ?_
        refine SXL.load1o 2 sh_3 rfl rfl (at_hi (M := (step1 s.fall (psTo s.fall M k) k)) (i := k + 1) (by omega) (by omega)) ?_
        refine SXL.fieldAddr fp_117_0 rfl ?_
        refine SXL.fieldAddr fp_27_2 rfl ?_
        refine SXL.load1o 0 sh_3 rfl rfl rfl ?_
        refine SXL.add rfl rfl (by omega) ?_
        refine SXL.buildS pl_23 zp_23 rfl rfl ?_
        refine SXL.call1 (spanV (bothP (Lo (step1 s.fall (psTo s.fall M k) k) k) (Hi (step1 s.fall (psTo s.fall M k) k) k) (Lo (step1 s.fall (psTo s.fall M k) k) (k + 1)) (Hi (step1 s.fall (psTo s.fall M k) k) (k + 1) + s.fall))) fn_116 rfl (fun w hI => both_any _ _ _ _ _ (hg.inv hI)) ?_
        refine SXL.nilCheck rfl ?_
        refine SXL.nil ⟨rfl, rfl, rfl, ?_⟩
        refine SXA.done (by kernel_rfl) ?_
        refine SXL.store 2 sz_23 rfl rfl rfl rfl rfl (ints_put2' (M := (step1 s.fall (psTo s.fall M k) k)) (i := k) (p := (bothP (Lo (step1 s.fall (psTo s.fall M k) k) k) (Hi (step1 s.fall (psTo s.fall M k) k) k) (Lo (step1 s.fall (psTo s.fall M k) k) (k + 1)) (Hi (step1 s.fall (psTo s.fall M k) k) (k + 1) + s.fall))) (by omega) (by omega)) ?_
        refine SXL.nil ?_
        refine thenQ.normal ?_
        refine SX.seq ?_
        have hl2 : (stepM s.fall (psTo s.fall M k) k).length = 20 := by simp [hMl]
        refine SX.draw 12 (by kernel_rfl) (by kernel_rfl) {} ?_
        refine SXA.take 0 12 rfl (by kernel_rfl) rfl ?_
        refine SXL.move rfl ?_
        refine SXL.nilCheck rfl ?_
        refine SXL.loadNo 2 sh_23 rfl rfl (ints_take2' (M := (stepM s.fall (psTo s.fall M k) k)) (i := k) (by omega) (by omega)) ?_
        refine SXL.loadN sh_23 rfl (hg.memN _) rfl ?_
        refine SXL.eqlV (p := [Lo (stepM s.fall (psTo s.fall M k) k) k, Hi (stepM s.fall (psTo s.fall M k) k) k] = [1, 0]) (u := .agg ⟨ints ([Lo (stepM s.fall (psTo s.fall M k) k) k, Hi (stepM s.fall (psTo s.fall M k) k) k])⟩) (v := .agg ⟨ints ([1, 0])⟩) rfl rfl (run_eql_ints eq_23 eg_23 sh_23 rfl rfl) ?_
        refine SXL.move rfl ?_
        apply SXL.orG 5
        case hl => exact rfl
        case hd => exact rfl
        case hg => exact rfl
        case ht =>
          intro c109
          refine SXL.pass rfl rfl rfl ?_
          refine SXL.pass rfl rfl rfl ?_
          refine SXL.pass rfl rfl rfl ?_
          refine SXL.pass rfl rfl rfl ?_
          refine SXL.pass rfl rfl rfl ?_
          exact SXL.nil (segQ.mk (.skip rfl (.skip rfl (.skip rfl (.skip rfl (.skip rfl (.skip rfl (EnvSub.refl _))))))) rfl rfl rfl)
        case hf =>
          intro c109
          refine SXL.move rfl ?_
          refine SXL.nilCheck rfl ?_
          refine SXL.loadNo 2 sh_23 rfl rfl (ints_take2' (M := (stepM s.fall (psTo s.fall M k) k)) (i := k + 1) (by omega) (by omega)) ?_
          refine SXL.loadN sh_23 rfl (hg.memN _) rfl ?_
          refine SXL.eqlV (p := [Lo (stepM s.fall (psTo s.fall M k) k) (k + 1), Hi (stepM s.fall (psTo s.fall M k) k) (k + 1)] = [1, 0]) (u := .agg ⟨ints ([Lo (stepM s.fall (psTo s.fall M k) k) (k + 1), Hi (stepM s.fall (psTo s.fall M k) k) (k + 1)])⟩) (v := .agg ⟨ints ([1, 0])⟩) rfl rfl (run_eql_ints eq_23 eg_23 sh_23 rfl rfl) ?_
          exact SXL.nil (segQ.mk (.skip rfl (.skip rfl (.skip rfl (.skip rfl (.skip rfl (.skip rfl (EnvSub.refl _))))))) rfl rfl ⟨rfl, rfl⟩)
        refine SXL.nil ⟨rfl, rfl, rfl, ?_⟩
        refine SXA.done (by kernel_rfl) ?_
        refine SXL.nil ?_
        refine thenQ.normal ?_
        refine SX.condP rfl (fun c109 => ?_) (fun c109 => ?_)
        · refine SX.seq ?_
          have hno : ¬lvB s L rain := by
            have hk2 := (hM.ps (by omega) (k + 1) (by omega))
            rcases c109 with c109 | c109
            · exact (after_ok hv hR hW.ll.len hW.sb hW.rel hW.rest rain).2 _ hk2 k (by omega) (span_none.1 c109.symm)
            · exact (after_ok hv hR hW.ll.len hW.sb hW.rel hW.rest rain).2 _ hk2 (k + 1) (by omega) (span_none.1 c109.symm)
          refine SX.region ?_
          refine SXL.loadNo 2 sh_114 rfl rfl (takeAt_full (by simp [hMl])) ?_
          refine SXL.store 1 sz_114 rfl rfl rfl rfl (by simp [hMl]) (putAt_all _ _ (by simp [hMl])) ?_ (ints_isOne _)
          refine SXL.assign rfl ?_
          refine SXL.nil ?_
          refine thenQ.normal ?_
          refine SX.ret ?_
          refine blockQ.ret ?_
          refine thenQ.ret ?_
          refine thenQ.ret ?_
          refine blockQ.ret ?_
          refine blockQ.ret ?_
          refine thenQ.ret ?_
          refine thenQ.ret ?_
          refine blockQ.ret ?_
          refine thenQ.ret ?_
          refine retQ.two (ResAt.cellNo 1 sh_114 rfl rfl (takeAt_full (k := 20) (by simp [hMl]))) (ResAt.tmp rfl) ?_
          exact ⟨_, hl2, fun h => absurd h hno, by rw [decide_eq_false hno]; rfl⟩
        · refine SX.skip ?_
          refine blockQ.normal ?_
          refine thenQ.normal ?_
          refine SX.region ?_
          refine SXL.move rfl ?_
          refine SXL.add rfl rfl (by omega) ?_
          refine SXL.assign rfl ?_
          refine SXL.nil ?_
          refine thenQ.normal ?_
          refine ⟨k + 1, Meets.mk _ ⟨rfl, trivial⟩ ⟨rfl, rfl, rfl, rfl, rfl, trivial⟩ rfl, ?_, (by omega)⟩
          refine ⟨by omega, fun j hj => ?_⟩
          by_cases e : j = k
          · subst e; exact ⟨fun h => c109 (.inl (span_none.2 h).symm), fun h => c109 (.inr (span_none.2 h).symm)⟩
          · exact hal j (by omega)
      · refine SX.exit ?_
        refine thenQ.exit ?_
        refine thenQ.exit ?_
        refine blockQ.exit ?_
        refine blockQ.normal ?_
        refine thenQ.normal ?_
        refine SX.seq ?_
        obtain rfl : k = s.weeks.toNat - 1 := by omega
        refine SX.region ?_
        refine SXL.loadNo 3 sh_114 rfl rfl (takeAt_full (by simp [hMl])) ?_
        refine SXL.nil ?_
        refine thenQ.normal ?_
        refine SX.region ?_
        refine SXL.alloc zp_114 ?_; intro b4
        refine SXL.store 4 sz_114 rfl rfl rfl rfl (by simp [hMl]) (putAt_all _ _ (by simp [hMl])) ?_ (ints_isOne _)
        refine SXL.nil ?_
        refine thenQ.normal ?_
        refine ⟨(_, _, _), Meets.mkS [0, 1, 2, 4] ⟨rfl, trivial⟩ ⟨rfl, rfl, rfl, rfl, trivial⟩ rfl, ⟨hM.ps (by omega) _ (by omega), hMl, .inr ⟨hM.sb, rfl, hal⟩⟩, (mu_less hMl hM.sb c46 _ (by omega))⟩
    · refine SX.exit ?_
      refine thenQ.exit ?_
      refine thenQ.exit ?_
      refine blockQ.exit ?_
      refine thenQ.normal ?_
      refine SX.seq ?_
      have c46 := Decidable.not_not.1 c46
      subst c46
      refine SX.draw 10 (by kernel_rfl) (by kernel_rfl) ⟨[1, 2, 3, 4, 5, 7, 9], [true, false]⟩ ?_
      refine SXA.take 0 1 rfl (by kernel_rfl) rfl ?_
      refine SXL.loadNo 2 sh_114 rfl rfl (takeAt_full (by simp [hMl])) ?_
      refine SXL.nil ⟨rfl, rfl, rfl, ?_⟩
      refine SXA.takeM 1 5 rfl (by kernel_rfl) rfl ?_
      refine SXL.fieldAddr fp_117_0 rfl ?_
      refine SXL.fieldAddr fp_27_0 rfl ?_
      refine SXL.load1o 0 sh_3 rfl rfl rfl ?_
      refine SXL.sliceAH el_114 rfl rfl (by omega) ?_
      refine SXL.loadN sh_23 rfl (hg.memN _) rfl ?_
      refine SXL.nil ⟨rfl, rfl, rfl, ?_⟩
      refine SXA.take 6 1 rfl (by kernel_rfl) rfl ?_
      refine SXL.call1 (.bool (decide (0 ≤ idxF (fun k => [1, 0] = [Lo W k, Hi W k]) s.weeks.toNat))) fn_130 rfl (fun w hI => containsSpans W s.weeks.toNat 1 0 _ _ (by omega) _ (ownPairs hI (i := 2) rfl (by omega))) ?_
      refine SXL.nil ⟨rfl, rfl, rfl, ?_⟩
      refine SXA.takeM 7 1 rfl (by kernel_rfl) rfl ?_
      refine SXL.not rfl ?_
      refine SXL.nil ⟨rfl, rfl, rfl, ?_⟩
      refine SXA.all [8] (by kernel_rfl) rfl ⟨⟨?_, rfl⟩, trivial⟩
      refine (show SXL _ _ [_] _ _ from ?_)
      refine SXL.store 1 sz_114 rfl rfl rfl rfl (by simp [hMl]) (putAt_all _ _ (by simp [hMl])) ?_ (ints_isOne _)
      refine SXL.nil (stepQ.mkL _ (by kernel_rfl) rfl rfl ?_)
      refine SXA.takeM 9 1 rfl (by kernel_rfl) rfl ?_
      refine SXL.assign rfl ?_
      refine SXL.nil ⟨rfl, rfl, rfl, ?_⟩
      refine SXA.done (by kernel_rfl) ?_
      refine SXL.nil ?_
      refine thenQ.normal ?_
      refine SX.ret ?_
      refine retQ.two (ResAt.cellNo 1 sh_114 rfl rfl (takeAt_full (k := 20) (by simp [hMl]))) (ResAt.tmp rfl) ?_
      obtain ⟨z1, z2⟩ := after_end hv hW hM hWM; exact ⟨_, hMl, z2, by rw [after_bool z1]⟩
end Go.Proofs.YtknflipongbngaaDoor

/- The walks of functions. -/
namespace Go.Proofs.YtknflipongbngaaDoor
open Go.X Go.S Go.RowKit
/-- The iterator of the rains. -/
structure ItR (s : Sp) (bo ro : Option Addr) (bc rc : Nat) (R : List Int) (v : Value) (own : X.Own) : Prop where
  ex : ∃ b, v = .func (.func 117) ⟨[]⟩ ⟨[.pointer (some ⟨b, 0, none⟩)]⟩ ∧ own = [(b, .cells ⟨watC s bo ro bc rc R⟩ 117 (0, 0))]
theorem it_any (s : Sp) (bo ro : Option Addr) (bc rc : Nat) (R : List Int) (_hR : R.length = 20) (w : World) :
    CallsR Tryd.prog 76 [.agg ⟨watC s bo ro bc rc R⟩] w (ItR s bo ro bc rc R) := by
  refine CallsR.of_SX (n := 4) (rs := [.tmp 2]) Tryd.func76 rfl rfl rfl rfl ?_
  show SX _ _ _ ⟨[(0, .agg ⟨watC s bo ro bc rc R⟩)], [], []⟩
  refine SX.seq ?_
  refine SX.region ?_
  refine SXL.box rfl rfl ?_; intro b0
  refine SXL.assign rfl ?_
  refine SXL.nil ?_
  refine thenQ.normal ?_
  refine SX.seq ?_
  refine SX.region ?_
  refine SXL.makeFunc rfl rfl ?_
  refine SXL.assign rfl ?_
  refine SXL.nil ?_
  refine thenQ.normal ?_
  refine SX.ret ?_
  refine retQ.one (ResAt.tmp rfl) ?_
  exact ⟨b0, rfl, rfl⟩
set_option maxHeartbeats 4000000 in
theorem spans_any (s : Sp) (bo ro : Option Addr) (bc rc : Nat) (R : List Int) (L : List Int) (hv : SpP s) (hW : RelW s R L) (w : World) (hg : Gl w) (hs : SpAt w s bo ro) :
    CallsR Tryd.prog 73 [.agg ⟨watC s bo ro bc rc R⟩] w (fun v _ => v = .tuple ⟨[.agg ⟨ints (outL s.weeks.toNat (lvsL s L (rnsL s L)))⟩, .bool (decide (rnsL s L ≠ []))]⟩) := by
  have hH := hv.1
  unfold HeadP at hH
  have hR := hW.lr
  refine CallsR.of_SX (n := 50) (rs := [.cell 2 114, .tmp 3]) Tryd.func73 rfl rfl rfl rfl ?_
  show SX _ _ _ ⟨[(0, .agg ⟨watC s bo ro bc rc R⟩)], [], []⟩
  refine SX.seq ?_
  refine SX.region ?_
  refine SXL.box rfl rfl ?_; intro b0
  refine SXL.alloc zp_114 ?_; intro b1
  refine SXL.assign rfl ?_
  refine SXL.nil ?_
  refine thenQ.normal ?_
  refine SX.seq ?_
  refine SX.region ?_
  refine SXL.alloc zp_114 ?_; intro b2
  refine SXL.nil ?_
  refine thenQ.normal ?_
  refine SX.seq ?_
  refine SX.region ?_
  refine SXL.alloc zp_4 ?_; intro b3
  refine SXL.store 3 sz_4 rfl rfl rfl rfl rfl rfl ?_
  refine SXL.nil ?_
  refine thenQ.normal ?_
  refine SX.seq ?_
  refine SX.seq ?_
  refine SX.region ?_
  refine SXL.loadNo 0 sh_117 rfl rfl (takeAt_full (watC_len hR)) ?_
  refine SXL.callF (ItR s bo ro bc rc R) fn_76 rfl (fun w hI => it_any s bo ro bc rc R hR w) ?_; rintro _ _ ⟨bi, rfl, rfl⟩
  refine SXL.nil ?_
  refine thenQ.normal ?_
  refine SX.block ?_
  refine SX.rangeFunc (f := 117) (nf := 31) (rs := []) rfl fn_117 Tryd.func117 rfl rfl rfl rfl ?_
  intro fn T r l ob hT hob
  refine SX.scope ?_
  refine SX.seq ?_
  refine SX.label ?_
  refine thenQ.normal ?_
  refine SX.seq ?_
  refine SX.region ?_
  refine SXL.fieldAddr fp_117_0 rfl ?_
  refine SXL.fieldAddr fp_27_4 rfl ?_
  refine SXL.fieldAddr fp_23_0 rfl ?_
  refine SXL.load1o 4 sh_3 rfl rfl rfl ?_
  refine SXL.assign rfl ?_
  refine SXL.nil ?_
  refine thenQ.normal ?_
  refine SX.block ?_
  refine SX.loopG (α := Nat × List Int) [0, 1] rfl (fun ⟨k, M⟩ => [(3, .int .i64 (s.w0 + (k : Int)))]) (fun ⟨k, M⟩ => [(2, (b2, .cells ⟨ints M⟩ 114 (0, 0))), (3, (b3, .cells ⟨[.bool (decide ((rnsTo s L k) ≠ []))]⟩ 4 (0, 0)))]) (fun ⟨k, M⟩ => k ≤ rnN s ∧ IsO s.weeks.toNat (lvsL s L (rnsTo s L k)) M) (fun ⟨k, M⟩ => (rnN s - k)) (0, List.replicate 20 0) ⟨Nat.zero_le _, IsO.zero _⟩ ⟨congrArg (fun z => some (Value.int .i64 z)) (show s.w0 = s.w0 + ((0 : Nat) : Int) by omega), trivial⟩ rfl ?_
  rintro ⟨k, M⟩ ⟨hk, hM⟩
  have hMl := hM.len
  have hN : rnN s = (s.w1 + 1 - s.w0).toNat := rfl
  refine SX.seq ?_
  refine SX.seq ?_
  refine SX.region ?_
  refine SXL.move rfl ?_
  refine SXL.fieldAddr fp_117_0 rfl ?_
  refine SXL.fieldAddr fp_27_4 rfl ?_
  refine SXL.fieldAddr fp_23_1 rfl ?_
  refine SXL.load1o 4 sh_3 rfl rfl rfl ?_
  refine SXL.leq rfl rfl ?_
  refine SXL.nil ?_
  refine thenQ.normal ?_
  refine SX.condP rfl (fun c15 => ?_) (fun c15 => ?_)
  · refine SX.skip ?_
    refine thenQ.normal ?_
    refine SX.seq ?_
    refine SX.block ?_
    refine SX.seq ?_
    refine SX.region ?_
    refine SXL.loadNo 4 sh_117 rfl rfl (takeAt_full (watC_len hR)) ?_
    refine SXL.move rfl ?_
    refine SXL.callP (AfterR s L (s.w0 + (k : Int))) fn_118 rfl (fun w hI => after_any s bo ro bc rc R L hv hW _ w (hg.inv hI) (hs.inv hI)) ?_; rintro _ ⟨X, hX1, hX2, rfl⟩
    refine SXL.move rfl ?_
    refine SXL.extract rfl rfl ?_
    refine SXL.extract rfl rfl ?_
    refine SXL.alloc zp_114 ?_; intro b7
    refine SXL.store 7 sz_114 rfl rfl rfl rfl (by simp [hX1]) (putAt_all _ _ (by simp [hX1])) ?_ (ints_isOne _)
    refine SXL.assign rfl ?_
    refine SXL.nil ?_
    refine thenQ.normal ?_
    refine SX.seq ?_
    refine SX.seq ?_
    refine SX.region ?_
    refine SXL.move rfl ?_
    refine SXL.not rfl ?_
    refine SXL.nil ?_
    refine thenQ.normal ?_
    refine SX.condP rfl (fun c25 => ?_) (fun c25 => ?_)
    · refine SX.exit ?_
      refine thenQ.exit ?_
      refine blockQ.exit ?_
      refine thenQ.normal ?_
      refine SX.region ?_
      refine SXL.move rfl ?_
      refine SXL.add rfl rfl (by omega) ?_
      refine SXL.assign rfl ?_
      refine SXL.nil ?_
      refine thenQ.normal ?_
      refine ⟨(k + 1, _), Meets.mk _ ⟨congrArg (fun z => some (Value.int .i64 z)) (show s.w0 + (k : Int) + 1 = s.w0 + ((k + 1 : Nat) : Int) by omega), trivial⟩ ⟨rfl, rfl, trivial⟩ (by show setAll _ (_ :: [(3, (b3, .cells ⟨[.bool (decide (rnsTo s L (k + 1) ≠ []))]⟩ 4 (0, 0)))]) ++ _ = _; first | (rw [decide_eq_true (p := rnsTo s L (k + 1) ≠ []) (by rw [rnsTo_yes hlv]; simp)]; rfl) | (rw [show rnsTo s L (k + 1) = _ from rnsTo_no c25]; rfl)), ?_, ?_⟩
      · refine ⟨by omega, ?_⟩
        first
          | exact (by rw [rnsTo_yes hlv]; simpa [lvsL] using hMd.done)
          | exact (by rw [rnsTo_no c25]; exact hM)
      · show rnN s - (k + 1) < rnN s - k; omega
    · refine SX.skip ?_
      refine thenQ.normal ?_
      refine SX.seq ?_
      have hlv := Decidable.not_not.1 c25
      obtain rfl := hX2 hlv
      refine SX.region ?_
      refine SXL.move rfl ?_
      refine SXL.move rfl ?_
      refine SXL.loadNo 7 sh_114 rfl rfl (takeAt_full (by simp)) ?_
      refine SXL.yield hT hob 6 rfl rfl rfl rfl rfl ?_
      refine SX.region ?_
      refine SXL.alloc zp_114 ?_; intro b8
      refine SXL.store 8 sz_114 rfl rfl rfl rfl (by simp) (putAt_all _ _ (by simp)) ?_ (ints_isOne _)
      refine SXL.nil ?_
      refine ⟨rfl, ?_⟩
      refine SX.block ?_
      refine SX.seq ?_
      refine SX.seq ?_
      refine SX.region ?_
      refine SXL.fieldAddr fp_117_0 rfl ?_
      refine SXL.fieldAddr fp_27_0 rfl ?_
      refine SXL.load1o 0 sh_3 rfl rfl rfl ?_
      refine SXL.move rfl ?_
      refine SXL.nil ?_
      refine thenQ.normal ?_
      refine SX.block ?_
      refine SX.loopG (α := Nat × List Int) [2, 3, 4, 5, 7, 15] rfl (fun ⟨j, M2⟩ => [(16, .int .i64 ((j : Int)))]) (fun ⟨j, M2⟩ => [(2, (b2, .cells ⟨ints M2⟩ 114 (0, 0)))]) (fun ⟨j, M2⟩ => j ≤ s.weeks.toNat ∧ MidO s.weeks.toNat (lvsL s L (rnsTo s L k)) (lvL s L (s.w0 + (k : Int))) j M2) (fun ⟨j, M2⟩ => s.weeks.toNat - j) (0, M) ⟨Nat.zero_le _, hM.mid _⟩ ⟨rfl, trivial⟩ rfl ?_
      rintro ⟨j, M2⟩ ⟨hj, hMd⟩
      have hM2l := hMd.len
      refine SX.seq ?_
      refine SX.region ?_
      refine SXL.lss rfl rfl ?_
      refine SXL.nil ?_
      refine thenQ.normal ?_
      refine SX.seq ?_
      refine SX.condP rfl (fun c17 => ?_) (fun c17 => ?_)
      · refine SX.skip ?_
        refine thenQ.normal ?_
        refine SX.seq ?_
        refine SX.block ?_
        refine SX.seq ?_
        refine SX.region ?_
        refine SXL.move rfl ?_
        refine SXL.assign rfl ?_
        refine SXL.nil ?_
        refine thenQ.normal ?_
        refine SX.cutG (α := List Int) [2, 3, 4, 5, 7, 8, 15, 16] rfl (fun M3 => []) (fun M3 => [(2, (b2, .cells ⟨ints M3⟩ 114 (0, 0)))]) (fun M3 => M3 = if (lvsL s L (rnsTo s L k)) = [] then set2 M2 j (G (lvL s L (s.w0 + (k : Int))) j, G (lvL s L (s.w0 + (k : Int))) (10 + j)) else M2) ?_ ?_
        · refine SX.seq ?_
          obtain ⟨x1, x2⟩ := ilv_at (lvL s L (s.w0 + (k : Int))) (w := j) (by omega)
          have hAe : (lvsL s L (rnsTo s L k)) = [] ↔ (rnsTo s L k) = [] := by simp [lvsL]
          refine SX.region ?_
          refine SXL.load1o 3 sh_4 rfl rfl rfl ?_
          refine SXL.not rfl ?_
          refine SXL.nil ?_
          refine thenQ.normal ?_
          refine SX.condP rfl (fun c20 => ?_) (fun c20 => ?_)
          · refine SX.region ?_
            refine SXL.move rfl ?_
            refine SXL.move rfl ?_
            refine SXL.indexA el_114 rfl rfl (by omega) ?_
            refine SXL.loadNo 8 sh_23 rfl rfl (ints_take2' (M := (ilv (lvL s L (s.w0 + (k : Int))))) (i := j) (by omega) (by omega)) ?_
            refine SXL.indexA el_114 rfl rfl (by omega) ?_
            refine SXL.store 2 sz_23 rfl rfl rfl rfl rfl (ints_put2' (M := M2) (i := j) (p := (Lo (ilv (lvL s L (s.w0 + (k : Int)))) j, Hi (ilv (lvL s L (s.w0 + (k : Int)))) j)) (by omega) (by omega)) ?_
            refine SXL.nil ?_
            refine thenQ.normal ?_
            refine ⟨_, Meets.mk _ trivial ⟨rfl, rfl, rfl, rfl, rfl, rfl, rfl, rfl, trivial⟩ rfl, (by first | (rw [if_pos (hAe.2 (Decidable.not_not.1 c20)), x1, x2]) | (rw [if_neg (fun h => c20 (fun h2 => h2 (hAe.1 h)))]))⟩
          · refine SX.skip ?_
            refine thenQ.normal ?_
            refine ⟨_, Meets.mk _ trivial ⟨rfl, rfl, rfl, rfl, rfl, rfl, rfl, rfl, trivial⟩ rfl, (by first | (rw [if_pos (hAe.2 (Decidable.not_not.1 c20)), x1, x2]) | (rw [if_neg (fun h => c20 (fun h2 => h2 (hAe.1 h)))]))⟩
        rintro M3 hM3
        have hM3l : M3.length = 20 := by rw [hM3]; split <;> simp [hM2l]
        obtain ⟨x1, x2⟩ := ilv_at (lvL s L (s.w0 + (k : Int))) (w := j) (by omega)
        refine SX.draw 21 (by kernel_rfl) (by kernel_rfl) {} ?_
        refine SXA.take 0 21 rfl (by kernel_rfl) rfl ?_
        refine SXL.move rfl ?_
        refine SXL.move rfl ?_
        refine SXL.indexA el_114 rfl rfl (by omega) ?_
        refine SXL.fieldAddr fp_23_0 rfl ?_
        refine SXL.load1o 2 sh_3 rfl rfl (at_lo (M := M3) (i := j) (by omega) (by omega)) ?_
        refine SXL.move rfl ?_
        refine SXL.indexA el_114 rfl rfl (by omega) ?_
        refine SXL.fieldAddr fp_23_0 rfl ?_
        refine SXL.load1o 8 sh_3 rfl rfl (at_lo (M := (ilv (lvL s L (s.w0 + (k : Int))))) (i := j) (by omega) (by omega)) ?_
        refine SXL.min rfl rfl ?_
        refine SXL.move rfl ?_
        refine SXL.indexA el_114 rfl rfl (by omega) ?_
        refine SXL.fieldAddr fp_23_1 rfl ?_
        refine SXL.load1o 2 sh_3 rfl rfl (at_hi (M := M3) (i := j) (by omega) (by omega)) ?_
        refine SXL.move rfl ?_
        refine SXL.indexA el_114 rfl rfl (by omega) ?_
        refine SXL.fieldAddr fp_23_1 rfl ?_
        refine SXL.load1o 8 sh_3 rfl rfl (at_hi (M := (ilv (lvL s L (s.w0 + (k : Int))))) (i := j) (by omega) (by omega)) ?_
        refine SXL.max rfl rfl ?_
        refine SXL.buildS pl_23 zp_23 rfl rfl ?_
        refine SXL.indexA el_114 rfl rfl (by omega) ?_
        refine SXL.nil ⟨rfl, rfl, rfl, ?_⟩
        refine SXA.done (by kernel_rfl) ?_
        refine SXL.store 2 sz_23 rfl rfl rfl rfl rfl (ints_put2' (M := M3) (i := j) (p := (min (Lo M3 j) (Lo (ilv (lvL s L (s.w0 + (k : Int)))) j), max (Hi M3 j) (Hi (ilv (lvL s L (s.w0 + (k : Int)))) j))) (by omega) (by omega)) ?_
        refine SXL.nil ?_
        refine blockQ.normal ?_
        refine thenQ.normal ?_
        refine SX.region ?_
        refine SXL.add rfl rfl (by omega) ?_
        refine SXL.move rfl ?_
        refine SXL.nil ?_
        refine thenQ.normal ?_
        refine ⟨(j + 1, _), Meets.mk _ ⟨rfl, trivial⟩ ⟨rfl, rfl, rfl, rfl, rfl, rfl, trivial⟩ rfl, ⟨by omega, by rw [x1, x2]; exact hMd.next (by omega) (by omega) hM3⟩, (show s.weeks.toNat - (j + 1) < s.weeks.toNat - j by omega)⟩
      · refine SX.exit ?_
        refine thenQ.exit ?_
        refine thenQ.exit ?_
        refine blockQ.exit ?_
        refine thenQ.normal ?_
        obtain rfl : j = s.weeks.toNat := by omega
        refine SX.region ?_
        refine SXL.store 3 sz_4 rfl rfl rfl rfl rfl rfl ?_
        refine SXL.nil ?_
        refine blockQ.normal ?_
        refine ⟨rfl, ?_⟩
        refine SXL.not rfl ?_
        refine SXL.nil ?_
        refine thenQ.normal ?_
        refine SX.condP rfl (fun c30 => ?_) (fun c30 => ?_)
        · exfalso; exact c30 trivial
        refine SX.skip ?_
        refine blockQ.normal ?_
        refine thenQ.normal ?_
        refine SX.region ?_
        refine SXL.move rfl ?_
        refine SXL.add rfl rfl (by omega) ?_
        refine SXL.assign rfl ?_
        refine SXL.nil ?_
        refine thenQ.normal ?_
        refine ⟨(k + 1, _), Meets.mk _ ⟨congrArg (fun z => some (Value.int .i64 z)) (show s.w0 + (k : Int) + 1 = s.w0 + ((k + 1 : Nat) : Int) by omega), trivial⟩ ⟨rfl, rfl, trivial⟩ (by show setAll _ (_ :: [(3, (b3, .cells ⟨[.bool (decide (rnsTo s L (k + 1) ≠ []))]⟩ 4 (0, 0)))]) ++ _ = _; first | (rw [decide_eq_true (p := rnsTo s L (k + 1) ≠ []) (by rw [rnsTo_yes hlv]; simp)]; rfl) | (rw [show rnsTo s L (k + 1) = _ from rnsTo_no c25]; rfl)), ?_, ?_⟩
        · refine ⟨by omega, ?_⟩
          first
            | exact (by rw [rnsTo_yes hlv]; simpa [lvsL] using hMd.done)
            | exact (by rw [rnsTo_no c25]; exact hM)
        · show rnN s - (k + 1) < rnN s - k; omega
  · refine SX.exit ?_
    refine thenQ.exit ?_
    refine thenQ.exit ?_
    refine blockQ.exit ?_
    refine scopeQ.normal ?_
    refine retQ.zeroN ?_
    refine ⟨6, rfl, ?_⟩
    refine blockQ.normal ?_
    refine thenQ.normal ?_
    refine SX.seq ?_
    obtain rfl : k = rnN s := by omega
    refine SX.draw 4 (by kernel_rfl) (by kernel_rfl) ⟨[1, 3], [true, false]⟩ ?_
    refine SXA.take 0 1 rfl (by kernel_rfl) rfl ?_
    refine SXL.loadNo 2 sh_114 rfl rfl (takeAt_full (by simp [hMl])) ?_
    refine SXL.nil ⟨rfl, rfl, rfl, ?_⟩
    refine SXA.takeM 1 1 rfl (by kernel_rfl) rfl ?_
    refine SXL.load1o 2 sh_4 rfl rfl rfl ?_
    refine SXL.nil ⟨rfl, rfl, rfl, ?_⟩
    refine SXA.all [2] (by kernel_rfl) rfl ⟨⟨?_, rfl⟩, trivial⟩
    refine (show SXL _ _ [_] _ _ from ?_)
    refine SXL.store 1 sz_114 rfl rfl rfl rfl (by simp [hMl]) (putAt_all _ _ (by simp [hMl])) ?_ (ints_isOne _)
    refine SXL.nil (stepQ.mkL _ (by kernel_rfl) rfl rfl ?_)
    refine SXA.takeM 3 1 rfl (by kernel_rfl) rfl ?_
    refine SXL.assign rfl ?_
    refine SXL.nil ⟨rfl, rfl, rfl, ?_⟩
    refine SXA.done (by kernel_rfl) ?_
    refine SXL.nil ?_
    refine thenQ.normal ?_
    refine SX.ret ?_
    refine retQ.unmark 5 rfl ?_
    refine retQ.two (ResAt.cellNo 1 sh_114 rfl rfl (takeAt_full (k := 20) (by simp [hMl]))) (ResAt.tmp rfl) ?_
    rw [show M = _ from hM.eq]; rfl
end Go.Proofs.YtknflipongbngaaDoor

/- The calculus' rules: sums that may turn over. Nothing of the program stands here. -/
namespace Go.X
open Go Go.RowKit
section
variable {C : Cx} {Q : Post} {env : Env} {own : Own} {D : List Deferred} {ops : Array Oper} {rest : List Oper}
variable {d : Nat} {ty : TypeId} {pos : String} {aft : Array Edge} {g : Option (Nat × Bool)} {x y : Operand} {T T' : TypeId} {A B : Int}
theorem SXL.subW (hx : ev env x = some (.int .i64 A)) (hy : ev env y = some (.int .i64 B))
    (h : SXL C ops rest Q ⟨(d, .int .i64 (IntKind.i64.wrap (A - B))) :: env, own, D⟩) (hd : Nat.blt d C.n = true := by rfl) (hw : Wanted ops g env = some true := by rfl) :
    SXL C ops ({ dst := some d, op := .binOp .sub T x y T', type := ty, pos, after := aft, guard := g } :: rest) Q ⟨env, own, D⟩ :=
  SXL.bin hx hy (r := .int .i64 (IntKind.i64.wrap (A - B))) (fun _w => rfl) hd hw h
theorem wrap_in {A : Int} (h : -9223372036854775808 ≤ A ∧ A ≤ 9223372036854775807) : IntKind.i64.wrap A = A := IntWalk.i64_in _ h
end
end Go.X

/- What the package spring is asked, handed back. -/
namespace Go.S
open Go Go.X
def askE (s : Sp) (p : Prop) [Decidable p] (e : Int) : Int := if ¬SpP s then 10 else if ¬p then e else if TrueP s then 0 else 8
def outA (s : Sp) : List Int := outL s.weeks.toNat (lvsL s (baseL s) (rnsL s (baseL s)))
structure AskR (s : Sp) (bo ro : Option Addr) (bc rc : Nat) (p : Prop) [Decidable p] (e : Int) (v : Value) : Prop where
  ex : ∃ W O, W.length = 29 ∧ W.all isOne = true ∧ O.length = 20 ∧ v = .tuple ⟨[.agg ⟨W⟩, .agg ⟨ints O⟩, .int .i64 (askE s p e)]⟩ ∧ (SpP s → p → TrueP s → W = watC s bo ro bc rc (flL s) ∧ O = outA s)
end Go.S
namespace Go.S
open Go Go.X
theorem askE_told {s : Sp} {week : Int} {p : Prop} [Decidable p] (hp : SpP s → (p ↔ Wi week 0 (s.weeks - 1))) : askE s p 11 = toldE s week := by
  unfold askE toldE TrueP
  by_cases hv : SpP s
  · have hq := hp hv
    by_cases h : p
    · have hw := hq.1 h
      by_cases ht : rnsL s (baseL s) = []
      · rw [if_neg (c := ¬SpP s) (fun hn => hn hv), if_neg (c := ¬SpP s) (fun hn => hn hv), if_neg (c := ¬p) (fun hn => hn h), if_neg (c := ¬Wi week 0 (s.weeks - 1)) (fun hn => hn hw), if_pos ht, if_neg (fun hn => hn ht)]
      · rw [if_neg (c := ¬SpP s) (fun hn => hn hv), if_neg (c := ¬SpP s) (fun hn => hn hv), if_neg (c := ¬p) (fun hn => hn h), if_neg (c := ¬Wi week 0 (s.weeks - 1)) (fun hn => hn hw), if_neg ht, if_pos ht]
    · have hw : ¬Wi week 0 (s.weeks - 1) := fun hn => h (hq.2 hn)
      rw [if_neg (c := ¬SpP s) (fun hn => hn hv), if_neg (c := ¬SpP s) (fun hn => hn hv), if_pos h, if_pos hw]
  · rw [if_pos hv, if_pos hv]
theorem outA_at {s : Sp} {week : Int} (h : toldE s week = 0) : Lo (outA s) week.toNat = givesLo s week ∧ Hi (outA s) week.toNat = givesHi s week := by
  obtain ⟨hv, hw, ht⟩ := toldE_valid h
  have h1 := hv.1; unfold HeadP at h1
  obtain ⟨a, b⟩ := mk20_at (oLo s.weeks.toNat (lvsL s (baseL s) (rnsL s (baseL s)))) (oHi s.weeks.toNat (lvsL s (baseL s) (rnsL s (baseL s)))) (w := week.toNat) (by omega)
  have hA : ¬(lvsL s (baseL s) (rnsL s (baseL s)) = [] ∨ s.weeks.toNat ≤ week.toNat) := by
    rintro (h | h)
    · exact ht (by simpa [lvsL] using h)
    · omega
  unfold outA outL
  rw [a, b, givesLo, givesHi, if_pos h, if_pos h, toldA, toldL_ok h, oLo, oHi, if_neg hA, if_neg hA]
  exact ⟨rfl, rfl⟩
end Go.S

/- The walks of functions. -/
namespace Go.Proofs.YtknflipongbngaaDoor
open Go.X Go.S Go.RowKit
theorem scan_any (s : Sp) (bo ro : Option Addr) (bc rc : Nat) (hb : s.book.length ≤ 1000000) (hr : s.reads.length ≤ 1000000) (w : World) (hg : Gl w) (hs : SpAt w s bo ro) :
    CallsR Tryd.prog 18 [.agg ⟨[.int .i64 s.weeks, .int .i64 s.most, .int .i64 s.fall, .int .i64 s.a0, .int .i64 s.a1, .int .i64 s.w0, .int .i64 s.w1, (.slice bo s.book.length bc), (.slice ro s.reads.length rc)]⟩] w (fun v _ => v = .tuple ⟨[.bool (decide (SpP s ∧ TrueP s)), .int .i64 (if SpP s then 0 else 10)]⟩) := by
  refine CallsR.of_SX (n := 19) (rs := [.tmp 2, .tmp 3]) Tryd.func18 rfl rfl rfl rfl ?_
  show SX _ _ _ ⟨[(0, .agg ⟨[.int .i64 s.weeks, .int .i64 s.most, .int .i64 s.fall, .int .i64 s.a0, .int .i64 s.a1, .int .i64 s.w0, .int .i64 s.w1, (.slice bo s.book.length bc), (.slice ro s.reads.length rc)]⟩)], [], []⟩
  refine SX.seq ?_
  refine SX.region ?_
  refine SXL.box rfl rfl ?_; intro b0
  refine SXL.assign rfl ?_
  refine SXL.assign rfl ?_
  refine SXL.nil ?_
  refine thenQ.normal ?_
  refine SX.seq ?_
  refine SX.seq ?_
  refine SX.region ?_
  refine SXL.loadNo 0 sh_27 rfl rfl rfl ?_
  refine SXL.call1 (.int .i64 (if SpP s then 0 else 10)) fn_26 rfl (fun w hI => scheck_any s bo ro _ _ hb hr _ (hg.inv hI) (hs.inv hI)) ?_
  refine SXL.assign rfl ?_
  refine SXL.nil ?_
  refine thenQ.normal ?_
  refine SX.seq ?_
  refine SX.region ?_
  refine SXL.move rfl ?_
  refine SXL.neqI rfl rfl ?_
  refine SXL.nil ?_
  refine thenQ.normal ?_
  refine SX.condP rfl (fun c10 => ?_) (fun c10 => ?_)
  · refine SX.seq ?_
    refine SX.region ?_
    refine SXL.move rfl ?_
    refine SXL.assign rfl ?_
    refine SXL.assign rfl ?_
    refine SXL.nil ?_
    refine thenQ.normal ?_
    refine SX.ret ?_
    refine thenQ.ret ?_
    refine retQ.two (ResAt.tmp rfl) (ResAt.tmp rfl) ?_
    have hv : ¬SpP s := fun h => c10 (by rw [if_pos h])
    rw [decide_eq_false (p := SpP s ∧ TrueP s) (fun h => hv h.1)]
  · refine SX.skip ?_
    refine thenQ.normal ?_
    refine SX.seq ?_
    have hv : SpP s := Decidable.byContradiction fun h => c10 (by rw [if_neg h]; omega)
    refine SX.region ?_
    refine SXL.loadNo 0 sh_27 rfl rfl rfl ?_
    refine SXL.call1 (.agg ⟨watC s bo ro bc rc (flL s)⟩) fn_72 rfl (fun w hI => flowing_any s bo ro bc rc hv _ (hg.inv hI) (hs.inv hI)) ?_
    refine SXL.call1 (.tuple ⟨[.agg ⟨ints (outL s.weeks.toNat (lvsL s (baseL s) (rnsL s (baseL s))))⟩, .bool (decide (rnsL s (baseL s) ≠ []))]⟩) fn_73 rfl (fun w hI => spans_any s bo ro bc rc (flL s) (baseL s) hv (relW hv) _ (hg.inv hI) (hs.inv hI)) ?_
    refine SXL.move rfl ?_
    refine SXL.extract rfl rfl ?_
    refine SXL.extract rfl rfl ?_
    refine SXL.alloc zp_114 ?_; intro b1
    refine SXL.store 1 sz_114 rfl rfl rfl rfl (by simp [outL]) (putAt_all _ _ (by simp [outL])) ?_ (ints_isOne _)
    refine SXL.assign rfl ?_
    refine SXL.nil ?_
    refine thenQ.normal ?_
    refine SX.seq ?_
    refine SX.region ?_
    refine SXL.move rfl ?_
    refine SXL.assign rfl ?_
    refine SXL.assign rfl ?_
    refine SXL.nil ?_
    refine thenQ.normal ?_
    refine SX.ret ?_
    refine retQ.two (ResAt.tmp rfl) (ResAt.tmp rfl) ?_
    rw [if_pos hv, decide_eq_decide.2 (show TrueP s ↔ SpP s ∧ TrueP s from ⟨fun h => ⟨hv, h⟩, fun h => h.2⟩)]
theorem asked_any (s : Sp) (bo ro : Option Addr) (bc rc : Nat) (p : Prop) [Decidable p] (e : Int) (hb : s.book.length ≤ 1000000) (hr : s.reads.length ≤ 1000000) (w : World) (hg : Gl w) (hs : SpAt w s bo ro) :
    CallsR Tryd.prog 75 [.agg ⟨[.int .i64 s.weeks, .int .i64 s.most, .int .i64 s.fall, .int .i64 s.a0, .int .i64 s.a1, .int .i64 s.w0, .int .i64 s.w1, (.slice bo s.book.length bc), (.slice ro s.reads.length rc)]⟩, .bool (decide (p)), .int .i64 e] w (fun v _ => AskR s bo ro bc rc p e v) := by
  refine CallsR.of_SX (n := 38) (rs := [.cell 6 117, .cell 7 114, .tmp 8]) Tryd.func75 rfl rfl rfl rfl ?_
  show SX _ _ _ ⟨[(0, .agg ⟨[.int .i64 s.weeks, .int .i64 s.most, .int .i64 s.fall, .int .i64 s.a0, .int .i64 s.a1, .int .i64 s.w0, .int .i64 s.w1, (.slice bo s.book.length bc), (.slice ro s.reads.length rc)]⟩), (1, .bool (decide (p))), (2, .int .i64 e)], [], []⟩
  refine SX.seq ?_
  refine SX.region ?_
  refine SXL.box rfl rfl ?_; intro b0
  refine SXL.alloc zp_117 ?_; intro b1
  refine SXL.alloc zp_114 ?_; intro b2
  refine SXL.assign rfl ?_
  refine SXL.nil ?_
  refine thenQ.normal ?_
  refine SX.seq ?_
  refine SX.seq ?_
  refine SX.region ?_
  refine SXL.loadNo 0 sh_27 rfl rfl rfl ?_
  refine SXL.call1 (.int .i64 (if SpP s then 0 else 10)) fn_26 rfl (fun w hI => scheck_any s bo ro _ _ hb hr _ (hg.inv hI) (hs.inv hI)) ?_
  refine SXL.assign rfl ?_
  refine SXL.nil ?_
  refine thenQ.normal ?_
  refine SX.seq ?_
  refine SX.region ?_
  refine SXL.move rfl ?_
  refine SXL.neqI rfl rfl ?_
  refine SXL.nil ?_
  refine thenQ.normal ?_
  refine SX.condP rfl (fun c16 => ?_) (fun c16 => ?_)
  · refine SX.seq ?_
    refine SX.region ?_
    refine SXL.buildS pl_117 zp_117 rfl rfl ?_
    refine SXL.buildA ae_114 zp_114 rfl rfl ?_
    refine SXL.move rfl ?_
    refine SXL.store 1 sz_117 rfl rfl rfl rfl rfl rfl ?_
    refine SXL.store 2 sz_114 rfl rfl rfl rfl rfl rfl ?_
    refine SXL.assign rfl ?_
    refine SXL.nil ?_
    refine thenQ.normal ?_
    refine SX.ret ?_
    refine thenQ.ret ?_
    refine retQ.three (ResAt.cellNo 1 sh_117 rfl rfl rfl) (ResAt.cellNo 2 sh_114 rfl rfl rfl) (ResAt.tmp rfl) ?_
    have hv : ¬SpP s := fun h => c16 (by rw [if_pos h])
    exact ⟨_, List.replicate 20 0, rfl, rfl, rfl, by rw [askE, if_pos hv, if_neg hv]; rfl, fun h => absurd h hv⟩
  · refine SX.skip ?_
    refine thenQ.normal ?_
    refine SX.seq ?_
    refine SX.seq ?_
    have hv : SpP s := Decidable.byContradiction fun h => c16 (by rw [if_neg h]; omega)
    refine SX.region ?_
    refine SXL.move rfl ?_
    refine SXL.not rfl ?_
    refine SXL.nil ?_
    refine thenQ.normal ?_
    refine SX.condP rfl (fun c21 => ?_) (fun c21 => ?_)
    · refine SX.seq ?_
      refine SX.region ?_
      refine SXL.buildS pl_117 zp_117 rfl rfl ?_
      refine SXL.buildA ae_114 zp_114 rfl rfl ?_
      refine SXL.move rfl ?_
      refine SXL.store 1 sz_117 rfl rfl rfl rfl rfl rfl ?_
      refine SXL.store 2 sz_114 rfl rfl rfl rfl rfl rfl ?_
      refine SXL.assign rfl ?_
      refine SXL.nil ?_
      refine thenQ.normal ?_
      refine SX.ret ?_
      refine thenQ.ret ?_
      refine retQ.three (ResAt.cellNo 1 sh_117 rfl rfl rfl) (ResAt.cellNo 2 sh_114 rfl rfl rfl) (ResAt.tmp rfl) ?_
      exact ⟨_, List.replicate 20 0, rfl, rfl, rfl, by rw [askE, if_neg (by simpa using hv), if_pos c21]; rfl, fun _ h => absurd h c21⟩
    · refine SX.skip ?_
      refine thenQ.normal ?_
      refine SX.seq ?_
      refine SX.region ?_
      refine SXL.loadNo 0 sh_27 rfl rfl rfl ?_
      refine SXL.call1 (.agg ⟨watC s bo ro bc rc (flL s)⟩) fn_72 rfl (fun w hI => flowing_any s bo ro bc rc hv _ (hg.inv hI) (hs.inv hI)) ?_
      refine SXL.alloc zp_117 ?_; intro b3
      refine SXL.store 3 sz_117 rfl rfl rfl rfl (watC_len (by simp [flL])) (putAt_all _ _ (watC_len (by simp [flL]))) ?_ (watC_one _ _ _ _ _ _)
      refine SXL.nil ?_
      refine thenQ.normal ?_
      refine SX.seq ?_
      refine SX.region ?_
      refine SXL.loadNo 3 sh_117 rfl rfl (takeAt_full (watC_len (by simp [flL]))) ?_
      refine SXL.call1 (.tuple ⟨[.agg ⟨ints (outL s.weeks.toNat (lvsL s (baseL s) (rnsL s (baseL s))))⟩, .bool (decide (rnsL s (baseL s) ≠ []))]⟩) fn_73 rfl (fun w hI => spans_any s bo ro bc rc (flL s) (baseL s) hv (relW hv) _ (hg.inv hI) (hs.inv hI)) ?_
      refine SXL.move rfl ?_
      refine SXL.extract rfl rfl ?_
      refine SXL.extract rfl rfl ?_
      refine SXL.alloc zp_114 ?_; intro b4
      refine SXL.store 4 sz_114 rfl rfl rfl rfl (by simp [outL]) (putAt_all _ _ (by simp [outL])) ?_ (ints_isOne _)
      refine SXL.assign rfl ?_
      refine SXL.nil ?_
      refine thenQ.normal ?_
      refine SX.seq ?_
      refine SX.seq ?_
      refine SX.region ?_
      refine SXL.move rfl ?_
      refine SXL.not rfl ?_
      refine SXL.nil ?_
      refine thenQ.normal ?_
      refine SX.condP rfl (fun c33 => ?_) (fun c33 => ?_)
      · refine SX.seq ?_
        refine SX.region ?_
        refine SXL.buildS pl_117 zp_117 rfl rfl ?_
        refine SXL.buildA ae_114 zp_114 rfl rfl ?_
        refine SXL.store 1 sz_117 rfl rfl rfl rfl rfl rfl ?_
        refine SXL.store 2 sz_114 rfl rfl rfl rfl rfl rfl ?_
        refine SXL.assign rfl ?_
        refine SXL.nil ?_
        refine thenQ.normal ?_
        refine SX.ret ?_
        refine thenQ.ret ?_
        refine retQ.three (ResAt.cellNo 1 sh_117 rfl rfl rfl) (ResAt.cellNo 2 sh_114 rfl rfl rfl) (ResAt.tmp rfl) ?_
        exact ⟨_, List.replicate 20 0, rfl, rfl, rfl, by rw [askE, if_neg (by simpa using hv), if_neg c21, if_neg c33]; rfl, fun _ _ h => absurd h c33⟩
      · refine SX.skip ?_
        refine thenQ.normal ?_
        refine SX.seq ?_
        refine SX.draw 5 (by kernel_rfl) (by kernel_rfl) ⟨[1, 3, 4], [true, false, false]⟩ ?_
        refine SXA.take 0 1 rfl (by kernel_rfl) rfl ?_
        refine SXL.loadNo 3 sh_117 rfl rfl (takeAt_full (watC_len (by simp [flL]))) ?_
        refine SXL.nil ⟨rfl, rfl, rfl, ?_⟩
        refine SXA.takeM 1 1 rfl (by kernel_rfl) rfl ?_
        refine SXL.loadNo 2 sh_114 rfl rfl (takeAt_full (by simp [outL])) ?_
        refine SXL.nil ⟨rfl, rfl, rfl, ?_⟩
        refine SXA.all [2] (by kernel_rfl) rfl ⟨⟨?_, rfl⟩, trivial⟩
        refine (show SXL _ _ [_] _ _ from ?_)
        refine SXL.store 1 sz_117 rfl rfl rfl rfl (watC_len (by simp [flL])) (putAt_all _ _ (watC_len (by simp [flL]))) ?_ (watC_one _ _ _ _ _ _)
        refine SXL.nil (stepQ.mkL _ (by kernel_rfl) rfl rfl ?_)
        refine SXA.all [3] (by kernel_rfl) rfl ⟨⟨?_, rfl⟩, trivial⟩
        refine (show SXL _ _ [_] _ _ from ?_)
        refine SXL.store 2 sz_114 rfl rfl rfl rfl (by simp [outL]) (putAt_all _ _ (by simp [outL])) ?_ (ints_isOne _)
        refine SXL.nil (stepQ.mkL _ (by kernel_rfl) rfl rfl ?_)
        refine SXA.takeM 4 1 rfl (by kernel_rfl) rfl ?_
        refine SXL.assign rfl ?_
        refine SXL.nil ⟨rfl, rfl, rfl, ?_⟩
        refine SXA.done (by kernel_rfl) ?_
        refine SXL.nil ?_
        refine thenQ.normal ?_
        refine SX.ret ?_
        refine retQ.three (ResAt.cellNo 1 sh_117 rfl rfl (takeAt_full (watC_len (by simp [flL])))) (ResAt.cellNo 2 sh_114 rfl rfl (takeAt_full (k := 20) (by simp [outL]))) (ResAt.tmp rfl) ?_
        exact ⟨_, outA s, watC_len (by simp [flL]), watC_one _ _ _ _ _ _, by simp [outA, outL], by rw [askE, if_neg (by simpa using hv), if_neg c21, if_pos (Decidable.not_not.1 c33)]; rfl, fun _ _ _ => ⟨rfl, rfl⟩⟩
end Go.Proofs.YtknflipongbngaaDoor

/- The walks of functions. -/
namespace Go.Proofs.YtknflipongbngaaDoor
open Go.X Go.S Go.RowKit
set_option maxHeartbeats 4000000 in
theorem sgives_any (s : Sp) (bo ro : Option Addr) (bc rc : Nat) (week : Int) (hb : s.book.length ≤ 1000000) (hr : s.reads.length ≤ 1000000) (w : World) (hg : Gl w) (hs : SpAt w s bo ro) :
    CallsR Tryd.prog 22 [.agg ⟨[.int .i64 s.weeks, .int .i64 s.most, .int .i64 s.fall, .int .i64 s.a0, .int .i64 s.a1, .int .i64 s.w0, .int .i64 s.w1, (.slice bo s.book.length bc), (.slice ro s.reads.length rc)]⟩, .int .i64 week] w (fun v _ => v = .tuple ⟨[.agg ⟨[.int .i64 ((givesLo s week)), .int .i64 ((givesHi s week))]⟩, .int .i64 (toldE s week)]⟩) := by
  have hp : SpP s → (Wi week 0 (IntKind.i64.wrap (s.weeks - 1)) ↔ Wi week 0 (s.weeks - 1)) := fun hv => by
    have hH := hv.1; unfold HeadP at hH; rw [wrap_in (by omega)]
  have hA : askE s (Wi week 0 (IntKind.i64.wrap (s.weeks - 1))) 11 = toldE s week := askE_told hp
  refine CallsR.of_SX (n := 28) (rs := [.cell 4 23, .tmp 5]) Tryd.func22 rfl rfl rfl rfl ?_
  show SX _ _ _ ⟨[(0, .agg ⟨[.int .i64 s.weeks, .int .i64 s.most, .int .i64 s.fall, .int .i64 s.a0, .int .i64 s.a1, .int .i64 s.w0, .int .i64 s.w1, (.slice bo s.book.length bc), (.slice ro s.reads.length rc)]⟩), (1, .int .i64 week)], [], []⟩
  refine SX.seq ?_
  refine SX.region ?_
  refine SXL.box rfl rfl ?_; intro b0
  refine SXL.alloc zp_23 ?_; intro b1
  refine SXL.assign rfl ?_
  refine SXL.nil ?_
  refine thenQ.normal ?_
  refine SX.seq ?_
  refine SX.draw 17 (by kernel_rfl) (by kernel_rfl) ⟨[10, 11, 15, 16], [true, true, false, false, false]⟩ ?_
  refine SXA.take 0 5 rfl (by kernel_rfl) rfl ?_
  refine SXL.loadNo 0 sh_27 rfl rfl rfl ?_
  refine SXL.fieldAddr fp_27_0 rfl ?_
  refine SXL.load1o 0 sh_3 rfl rfl rfl ?_
  refine SXL.subW rfl rfl ?_
  refine SXL.move rfl ?_
  refine SXL.nil ⟨rfl, rfl, rfl, ?_⟩
  refine SXA.all [5, 12, 13] (by kernel_rfl) rfl ⟨⟨?_, rfl⟩, ⟨?_, rfl⟩, ⟨?_, rfl⟩, trivial⟩
  · refine (show SXL _ _ [_] _ _ from ?_)
    refine SXL.buildSlice et_35 zp_3 rfl rfl rfl rfl ?_; intro b2
    refine SXL.nil (stepQ.mk _ rfl rfl ?_)
    refine SXA.take 6 1 rfl (by kernel_rfl) rfl ?_
    refine SXL.call1 (.bool (decide (Wi week 0 (IntKind.i64.wrap (s.weeks - 1))))) fn_78 rfl (fun w hI => in1_own hI 2 week 0 (IntKind.i64.wrap (s.weeks - 1)) rfl) ?_
    refine SXL.nil ⟨rfl, rfl, rfl, ?_⟩
    refine SXA.all [7, 12, 13] (by kernel_rfl) rfl ⟨⟨?_, rfl⟩, ⟨?_, rfl⟩, ⟨?_, rfl⟩, trivial⟩
    · refine (show SXL _ _ [_] _ _ from ?_)
      refine SXL.callP (AskR s bo ro bc rc (Wi week 0 (IntKind.i64.wrap (s.weeks - 1))) 11) fn_75 rfl (fun w hI => asked_any s bo ro bc rc (Wi week 0 (IntKind.i64.wrap (s.weeks - 1))) 11 hb hr w (hg.inv hI) (hs.inv hI)) ?_; rintro _ ⟨W, O, hW1, hW2, hO, rfl, hok⟩
      refine SXL.nil (stepQ.mk _ rfl rfl ?_)
      refine SXA.take 8 2 rfl (by kernel_rfl) rfl ?_
      refine SXL.move rfl ?_
      refine SXL.extract rfl rfl ?_
      refine SXL.nil ⟨rfl, rfl, rfl, ?_⟩
      refine SXA.takeM 10 2 rfl (by kernel_rfl) rfl ?_
      refine SXL.extract rfl rfl ?_
      refine SXL.extract rfl rfl ?_
      refine SXL.nil ⟨rfl, rfl, rfl, ?_⟩
      refine SXA.all [12, 13] (by kernel_rfl) rfl ⟨⟨?_, rfl⟩, ⟨?_, rfl⟩, trivial⟩
      · refine (show SXL _ _ [_] _ _ from ?_)
        refine SXL.alloc zp_117 ?_; intro b3
        refine SXL.nil (stepQ.mk _ rfl rfl ?_)
        refine SXA.all [13] (by kernel_rfl) rfl ⟨⟨?_, rfl⟩, trivial⟩
        refine (show SXL _ _ [_] _ _ from ?_)
        refine SXL.alloc zp_114 ?_; intro b4
        refine SXL.nil (stepQ.mk _ rfl rfl ?_)
        refine SXA.all [14] (by kernel_rfl) rfl ⟨⟨?_, rfl⟩, trivial⟩
        refine (show SXL _ _ [_] _ _ from ?_)
        refine SXL.store 3 sz_117 rfl rfl rfl rfl hW1 (putAt_all _ _ (by simp [hW1])) ?_ hW2
        refine SXL.nil (stepQ.mkL _ (by kernel_rfl) rfl rfl ?_)
        refine SXA.all [15] (by kernel_rfl) rfl ⟨⟨?_, rfl⟩, trivial⟩
        refine (show SXL _ _ [_] _ _ from ?_)
        refine SXL.store 4 sz_114 rfl rfl rfl rfl (by simp [hO]) (putAt_all _ _ (by simp [hO])) ?_ (ints_isOne _)
        refine SXL.nil (stepQ.mkL _ (by kernel_rfl) rfl rfl ?_)
        refine SXA.takeM 16 1 rfl (by kernel_rfl) rfl ?_
        refine SXL.assign rfl ?_
        refine SXL.nil ⟨rfl, rfl, rfl, ?_⟩
        refine SXA.done (by kernel_rfl) ?_
        refine SXL.nil ?_
        refine thenQ.normal ?_
        refine SX.seq ?_
        refine SX.seq ?_
        refine SX.region ?_
        refine SXL.move rfl ?_
        refine SXL.neqI rfl rfl ?_
        refine SXL.nil ?_
        refine thenQ.normal ?_
        refine SX.condP rfl (fun c22 => ?_) (fun c22 => ?_)
        · refine SX.seq ?_
          refine SX.region ?_
          refine SXL.buildS pl_23 zp_23 rfl rfl ?_
          refine SXL.move rfl ?_
          refine SXL.store 1 sz_23 rfl rfl rfl rfl rfl rfl ?_
          refine SXL.assign rfl ?_
          refine SXL.nil ?_
          refine thenQ.normal ?_
          refine SX.ret ?_
          refine thenQ.ret ?_
          refine retQ.two (ResAt.cellNo 1 sh_23 rfl rfl rfl) (ResAt.tmp rfl) ?_
          rw [givesLo, givesHi, ← hA, if_neg c22, if_neg c22]
        · refine SX.skip ?_
          refine thenQ.normal ?_
          refine SX.seq ?_
          have hc22 := Decidable.not_not.1 c22
          obtain ⟨hv, hwk, ht⟩ := toldE_valid (hA ▸ hc22)
          obtain ⟨rfl, rfl⟩ := hok hv ((hp hv).2 hwk) ht
          obtain ⟨g1, g2⟩ := outA_at (hA ▸ hc22)
          have hH := hv.1
          unfold HeadP at hH
          refine SX.region ?_
          refine SXL.move rfl ?_
          refine SXL.indexA el_114 rfl rfl (by omega) ?_
          refine SXL.loadNo 4 sh_23 rfl rfl (ints_take2' (M := outA s) (i := week.toNat) (by omega) (by rw [hO]; omega)) ?_
          refine SXL.store 1 sz_23 rfl rfl rfl rfl rfl rfl ?_
          refine SXL.assign rfl ?_
          refine SXL.nil ?_
          refine thenQ.normal ?_
          refine SX.ret ?_
          refine retQ.two (ResAt.cellNo 1 sh_23 rfl rfl rfl) (ResAt.tmp rfl) ?_
          rw [← hA, hc22, g1, g2]
      · refine (show SXL _ _ [_] _ _ from ?_)
        refine SXL.alloc zp_114 ?_; intro b3
        refine SXL.nil (stepQ.mk _ rfl rfl ?_)
        refine SXA.all [12] (by kernel_rfl) rfl ⟨⟨?_, rfl⟩, trivial⟩
        refine (show SXL _ _ [_] _ _ from ?_)
        refine SXL.alloc zp_117 ?_; intro b4
        refine SXL.nil (stepQ.mk _ rfl rfl ?_)
        refine SXA.all [14] (by kernel_rfl) rfl ⟨⟨?_, rfl⟩, trivial⟩
        refine (show SXL _ _ [_] _ _ from ?_)
        refine SXL.store 4 sz_117 rfl rfl rfl rfl hW1 (putAt_all _ _ (by simp [hW1])) ?_ hW2
        refine SXL.nil (stepQ.mkL _ (by kernel_rfl) rfl rfl ?_)
        refine SXA.all [15] (by kernel_rfl) rfl ⟨⟨?_, rfl⟩, trivial⟩
        refine (show SXL _ _ [_] _ _ from ?_)
        refine SXL.store 3 sz_114 rfl rfl rfl rfl (by simp [hO]) (putAt_all _ _ (by simp [hO])) ?_ (ints_isOne _)
        refine SXL.nil (stepQ.mkL _ (by kernel_rfl) rfl rfl ?_)
        refine SXA.takeM 16 1 rfl (by kernel_rfl) rfl ?_
        refine SXL.assign rfl ?_
        refine SXL.nil ⟨rfl, rfl, rfl, ?_⟩
        refine SXA.done (by kernel_rfl) ?_
        refine SXL.nil ?_
        refine thenQ.normal ?_
        refine SX.seq ?_
        refine SX.seq ?_
        refine SX.region ?_
        refine SXL.move rfl ?_
        refine SXL.neqI rfl rfl ?_
        refine SXL.nil ?_
        refine thenQ.normal ?_
        refine SX.condP rfl (fun c22 => ?_) (fun c22 => ?_)
        · refine SX.seq ?_
          refine SX.region ?_
          refine SXL.buildS pl_23 zp_23 rfl rfl ?_
          refine SXL.move rfl ?_
          refine SXL.store 1 sz_23 rfl rfl rfl rfl rfl rfl ?_
          refine SXL.assign rfl ?_
          refine SXL.nil ?_
          refine thenQ.normal ?_
          refine SX.ret ?_
          refine thenQ.ret ?_
          refine retQ.two (ResAt.cellNo 1 sh_23 rfl rfl rfl) (ResAt.tmp rfl) ?_
          rw [givesLo, givesHi, ← hA, if_neg c22, if_neg c22]
        · refine SX.skip ?_
          refine thenQ.normal ?_
          refine SX.seq ?_
          have hc22 := Decidable.not_not.1 c22
          obtain ⟨hv, hwk, ht⟩ := toldE_valid (hA ▸ hc22)
          obtain ⟨rfl, rfl⟩ := hok hv ((hp hv).2 hwk) ht
          obtain ⟨g1, g2⟩ := outA_at (hA ▸ hc22)
          have hH := hv.1
          unfold HeadP at hH
          refine SX.region ?_
          refine SXL.move rfl ?_
          refine SXL.indexA el_114 rfl rfl (by omega) ?_
          refine SXL.loadNo 3 sh_23 rfl rfl (ints_take2' (M := outA s) (i := week.toNat) (by omega) (by rw [hO]; omega)) ?_
          refine SXL.store 1 sz_23 rfl rfl rfl rfl rfl rfl ?_
          refine SXL.assign rfl ?_
          refine SXL.nil ?_
          refine thenQ.normal ?_
          refine SX.ret ?_
          refine retQ.two (ResAt.cellNo 1 sh_23 rfl rfl rfl) (ResAt.tmp rfl) ?_
          rw [← hA, hc22, g1, g2]
    · refine (show SXL _ _ [_] _ _ from ?_)
      refine SXL.alloc zp_117 ?_; intro b3
      refine SXL.nil (stepQ.mk _ rfl rfl ?_)
      refine SXA.all [7, 13] (by kernel_rfl) rfl ⟨⟨?_, rfl⟩, ⟨?_, rfl⟩, trivial⟩
      · refine (show SXL _ _ [_] _ _ from ?_)
        refine SXL.callP (AskR s bo ro bc rc (Wi week 0 (IntKind.i64.wrap (s.weeks - 1))) 11) fn_75 rfl (fun w hI => asked_any s bo ro bc rc (Wi week 0 (IntKind.i64.wrap (s.weeks - 1))) 11 hb hr w (hg.inv hI) (hs.inv hI)) ?_; rintro _ ⟨W, O, hW1, hW2, hO, rfl, hok⟩
        refine SXL.nil (stepQ.mk _ rfl rfl ?_)
        refine SXA.take 8 2 rfl (by kernel_rfl) rfl ?_
        refine SXL.move rfl ?_
        refine SXL.extract rfl rfl ?_
        refine SXL.nil ⟨rfl, rfl, rfl, ?_⟩
        refine SXA.takeM 10 2 rfl (by kernel_rfl) rfl ?_
        refine SXL.extract rfl rfl ?_
        refine SXL.extract rfl rfl ?_
        refine SXL.nil ⟨rfl, rfl, rfl, ?_⟩
        refine SXA.all [13] (by kernel_rfl) rfl ⟨⟨?_, rfl⟩, trivial⟩
        refine (show SXL _ _ [_] _ _ from ?_)
        refine SXL.alloc zp_114 ?_; intro b4
        refine SXL.nil (stepQ.mk _ rfl rfl ?_)
        refine SXA.all [14] (by kernel_rfl) rfl ⟨⟨?_, rfl⟩, trivial⟩
        refine (show SXL _ _ [_] _ _ from ?_)
        refine SXL.store 3 sz_117 rfl rfl rfl rfl hW1 (putAt_all _ _ (by simp [hW1])) ?_ hW2
        refine SXL.nil (stepQ.mkL _ (by kernel_rfl) rfl rfl ?_)
        refine SXA.all [15] (by kernel_rfl) rfl ⟨⟨?_, rfl⟩, trivial⟩
        refine (show SXL _ _ [_] _ _ from ?_)
        refine SXL.store 4 sz_114 rfl rfl rfl rfl (by simp [hO]) (putAt_all _ _ (by simp [hO])) ?_ (ints_isOne _)
        refine SXL.nil (stepQ.mkL _ (by kernel_rfl) rfl rfl ?_)
        refine SXA.takeM 16 1 rfl (by kernel_rfl) rfl ?_
        refine SXL.assign rfl ?_
        refine SXL.nil ⟨rfl, rfl, rfl, ?_⟩
        refine SXA.done (by kernel_rfl) ?_
        refine SXL.nil ?_
        refine thenQ.normal ?_
        refine SX.seq ?_
        refine SX.seq ?_
        refine SX.region ?_
        refine SXL.move rfl ?_
        refine SXL.neqI rfl rfl ?_
        refine SXL.nil ?_
        refine thenQ.normal ?_
        refine SX.condP rfl (fun c22 => ?_) (fun c22 => ?_)
        · refine SX.seq ?_
          refine SX.region ?_
          refine SXL.buildS pl_23 zp_23 rfl rfl ?_
          refine SXL.move rfl ?_
          refine SXL.store 1 sz_23 rfl rfl rfl rfl rfl rfl ?_
          refine SXL.assign rfl ?_
          refine SXL.nil ?_
          refine thenQ.normal ?_
          refine SX.ret ?_
          refine thenQ.ret ?_
          refine retQ.two (ResAt.cellNo 1 sh_23 rfl rfl rfl) (ResAt.tmp rfl) ?_
          rw [givesLo, givesHi, ← hA, if_neg c22, if_neg c22]
        · refine SX.skip ?_
          refine thenQ.normal ?_
          refine SX.seq ?_
          have hc22 := Decidable.not_not.1 c22
          obtain ⟨hv, hwk, ht⟩ := toldE_valid (hA ▸ hc22)
          obtain ⟨rfl, rfl⟩ := hok hv ((hp hv).2 hwk) ht
          obtain ⟨g1, g2⟩ := outA_at (hA ▸ hc22)
          have hH := hv.1
          unfold HeadP at hH
          refine SX.region ?_
          refine SXL.move rfl ?_
          refine SXL.indexA el_114 rfl rfl (by omega) ?_
          refine SXL.loadNo 4 sh_23 rfl rfl (ints_take2' (M := outA s) (i := week.toNat) (by omega) (by rw [hO]; omega)) ?_
          refine SXL.store 1 sz_23 rfl rfl rfl rfl rfl rfl ?_
          refine SXL.assign rfl ?_
          refine SXL.nil ?_
          refine thenQ.normal ?_
          refine SX.ret ?_
          refine retQ.two (ResAt.cellNo 1 sh_23 rfl rfl rfl) (ResAt.tmp rfl) ?_
          rw [← hA, hc22, g1, g2]
      · refine (show SXL _ _ [_] _ _ from ?_)
        refine SXL.alloc zp_114 ?_; intro b4
        refine SXL.nil (stepQ.mk _ rfl rfl ?_)
        refine SXA.all [7] (by kernel_rfl) rfl ⟨⟨?_, rfl⟩, trivial⟩
        refine (show SXL _ _ [_] _ _ from ?_)
        refine SXL.callP (AskR s bo ro bc rc (Wi week 0 (IntKind.i64.wrap (s.weeks - 1))) 11) fn_75 rfl (fun w hI => asked_any s bo ro bc rc (Wi week 0 (IntKind.i64.wrap (s.weeks - 1))) 11 hb hr w (hg.inv hI) (hs.inv hI)) ?_; rintro _ ⟨W, O, hW1, hW2, hO, rfl, hok⟩
        refine SXL.nil (stepQ.mk _ rfl rfl ?_)
        refine SXA.take 8 2 rfl (by kernel_rfl) rfl ?_
        refine SXL.move rfl ?_
        refine SXL.extract rfl rfl ?_
        refine SXL.nil ⟨rfl, rfl, rfl, ?_⟩
        refine SXA.takeM 10 2 rfl (by kernel_rfl) rfl ?_
        refine SXL.extract rfl rfl ?_
        refine SXL.extract rfl rfl ?_
        refine SXL.nil ⟨rfl, rfl, rfl, ?_⟩
        refine SXA.all [14] (by kernel_rfl) rfl ⟨⟨?_, rfl⟩, trivial⟩
        refine (show SXL _ _ [_] _ _ from ?_)
        refine SXL.store 3 sz_117 rfl rfl rfl rfl hW1 (putAt_all _ _ (by simp [hW1])) ?_ hW2
        refine SXL.nil (stepQ.mkL _ (by kernel_rfl) rfl rfl ?_)
        refine SXA.all [15] (by kernel_rfl) rfl ⟨⟨?_, rfl⟩, trivial⟩
        refine (show SXL _ _ [_] _ _ from ?_)
        refine SXL.store 4 sz_114 rfl rfl rfl rfl (by simp [hO]) (putAt_all _ _ (by simp [hO])) ?_ (ints_isOne _)
        refine SXL.nil (stepQ.mkL _ (by kernel_rfl) rfl rfl ?_)
        refine SXA.takeM 16 1 rfl (by kernel_rfl) rfl ?_
        refine SXL.assign rfl ?_
        refine SXL.nil ⟨rfl, rfl, rfl, ?_⟩
        refine SXA.done (by kernel_rfl) ?_
        refine SXL.nil ?_
        refine thenQ.normal ?_
        refine SX.seq ?_
        refine SX.seq ?_
        refine SX.region ?_
        refine SXL.move rfl ?_
        refine SXL.neqI rfl rfl ?_
        refine SXL.nil ?_
        refine thenQ.normal ?_
        refine SX.condP rfl (fun c22 => ?_) (fun c22 => ?_)
        · refine SX.seq ?_
          refine SX.region ?_
          refine SXL.buildS pl_23 zp_23 rfl rfl ?_
          refine SXL.move rfl ?_
          refine SXL.store 1 sz_23 rfl rfl rfl rfl rfl rfl ?_
          refine SXL.assign rfl ?_
          refine SXL.nil ?_
          refine thenQ.normal ?_
          refine SX.ret ?_
          refine thenQ.ret ?_
          refine retQ.two (ResAt.cellNo 1 sh_23 rfl rfl rfl) (ResAt.tmp rfl) ?_
          rw [givesLo, givesHi, ← hA, if_neg c22, if_neg c22]
        · refine SX.skip ?_
          refine thenQ.normal ?_
          refine SX.seq ?_
          have hc22 := Decidable.not_not.1 c22
          obtain ⟨hv, hwk, ht⟩ := toldE_valid (hA ▸ hc22)
          obtain ⟨rfl, rfl⟩ := hok hv ((hp hv).2 hwk) ht
          obtain ⟨g1, g2⟩ := outA_at (hA ▸ hc22)
          have hH := hv.1
          unfold HeadP at hH
          refine SX.region ?_
          refine SXL.move rfl ?_
          refine SXL.indexA el_114 rfl rfl (by omega) ?_
          refine SXL.loadNo 4 sh_23 rfl rfl (ints_take2' (M := outA s) (i := week.toNat) (by omega) (by rw [hO]; omega)) ?_
          refine SXL.store 1 sz_23 rfl rfl rfl rfl rfl rfl ?_
          refine SXL.assign rfl ?_
          refine SXL.nil ?_
          refine thenQ.normal ?_
          refine SX.ret ?_
          refine retQ.two (ResAt.cellNo 1 sh_23 rfl rfl rfl) (ResAt.tmp rfl) ?_
          rw [← hA, hc22, g1, g2]
    · refine (show SXL _ _ [_] _ _ from ?_)
      refine SXL.alloc zp_114 ?_; intro b3
      refine SXL.nil (stepQ.mk _ rfl rfl ?_)
      refine SXA.all [7, 12] (by kernel_rfl) rfl ⟨⟨?_, rfl⟩, ⟨?_, rfl⟩, trivial⟩
      · refine (show SXL _ _ [_] _ _ from ?_)
        refine SXL.callP (AskR s bo ro bc rc (Wi week 0 (IntKind.i64.wrap (s.weeks - 1))) 11) fn_75 rfl (fun w hI => asked_any s bo ro bc rc (Wi week 0 (IntKind.i64.wrap (s.weeks - 1))) 11 hb hr w (hg.inv hI) (hs.inv hI)) ?_; rintro _ ⟨W, O, hW1, hW2, hO, rfl, hok⟩
        refine SXL.nil (stepQ.mk _ rfl rfl ?_)
        refine SXA.take 8 2 rfl (by kernel_rfl) rfl ?_
        refine SXL.move rfl ?_
        refine SXL.extract rfl rfl ?_
        refine SXL.nil ⟨rfl, rfl, rfl, ?_⟩
        refine SXA.takeM 10 2 rfl (by kernel_rfl) rfl ?_
        refine SXL.extract rfl rfl ?_
        refine SXL.extract rfl rfl ?_
        refine SXL.nil ⟨rfl, rfl, rfl, ?_⟩
        refine SXA.all [12] (by kernel_rfl) rfl ⟨⟨?_, rfl⟩, trivial⟩
        refine (show SXL _ _ [_] _ _ from ?_)
        refine SXL.alloc zp_117 ?_; intro b4
        refine SXL.nil (stepQ.mk _ rfl rfl ?_)
        refine SXA.all [14] (by kernel_rfl) rfl ⟨⟨?_, rfl⟩, trivial⟩
        refine (show SXL _ _ [_] _ _ from ?_)
        refine SXL.store 4 sz_117 rfl rfl rfl rfl hW1 (putAt_all _ _ (by simp [hW1])) ?_ hW2
        refine SXL.nil (stepQ.mkL _ (by kernel_rfl) rfl rfl ?_)
        refine SXA.all [15] (by kernel_rfl) rfl ⟨⟨?_, rfl⟩, trivial⟩
        refine (show SXL _ _ [_] _ _ from ?_)
        refine SXL.store 3 sz_114 rfl rfl rfl rfl (by simp [hO]) (putAt_all _ _ (by simp [hO])) ?_ (ints_isOne _)
        refine SXL.nil (stepQ.mkL _ (by kernel_rfl) rfl rfl ?_)
        refine SXA.takeM 16 1 rfl (by kernel_rfl) rfl ?_
        refine SXL.assign rfl ?_
        refine SXL.nil ⟨rfl, rfl, rfl, ?_⟩
        refine SXA.done (by kernel_rfl) ?_
        refine SXL.nil ?_
        refine thenQ.normal ?_
        refine SX.seq ?_
        refine SX.seq ?_
        refine SX.region ?_
        refine SXL.move rfl ?_
        refine SXL.neqI rfl rfl ?_
        refine SXL.nil ?_
        refine thenQ.normal ?_
        refine SX.condP rfl (fun c22 => ?_) (fun c22 => ?_)
        · refine SX.seq ?_
          refine SX.region ?_
          refine SXL.buildS pl_23 zp_23 rfl rfl ?_
          refine SXL.move rfl ?_
          refine SXL.store 1 sz_23 rfl rfl rfl rfl rfl rfl ?_
          refine SXL.assign rfl ?_
          refine SXL.nil ?_
          refine thenQ.normal ?_
          refine SX.ret ?_
          refine thenQ.ret ?_
          refine retQ.two (ResAt.cellNo 1 sh_23 rfl rfl rfl) (ResAt.tmp rfl) ?_
          rw [givesLo, givesHi, ← hA, if_neg c22, if_neg c22]
        · refine SX.skip ?_
          refine thenQ.normal ?_
          refine SX.seq ?_
          have hc22 := Decidable.not_not.1 c22
          obtain ⟨hv, hwk, ht⟩ := toldE_valid (hA ▸ hc22)
          obtain ⟨rfl, rfl⟩ := hok hv ((hp hv).2 hwk) ht
          obtain ⟨g1, g2⟩ := outA_at (hA ▸ hc22)
          have hH := hv.1
          unfold HeadP at hH
          refine SX.region ?_
          refine SXL.move rfl ?_
          refine SXL.indexA el_114 rfl rfl (by omega) ?_
          refine SXL.loadNo 3 sh_23 rfl rfl (ints_take2' (M := outA s) (i := week.toNat) (by omega) (by rw [hO]; omega)) ?_
          refine SXL.store 1 sz_23 rfl rfl rfl rfl rfl rfl ?_
          refine SXL.assign rfl ?_
          refine SXL.nil ?_
          refine thenQ.normal ?_
          refine SX.ret ?_
          refine retQ.two (ResAt.cellNo 1 sh_23 rfl rfl rfl) (ResAt.tmp rfl) ?_
          rw [← hA, hc22, g1, g2]
      · refine (show SXL _ _ [_] _ _ from ?_)
        refine SXL.alloc zp_117 ?_; intro b4
        refine SXL.nil (stepQ.mk _ rfl rfl ?_)
        refine SXA.all [7] (by kernel_rfl) rfl ⟨⟨?_, rfl⟩, trivial⟩
        refine (show SXL _ _ [_] _ _ from ?_)
        refine SXL.callP (AskR s bo ro bc rc (Wi week 0 (IntKind.i64.wrap (s.weeks - 1))) 11) fn_75 rfl (fun w hI => asked_any s bo ro bc rc (Wi week 0 (IntKind.i64.wrap (s.weeks - 1))) 11 hb hr w (hg.inv hI) (hs.inv hI)) ?_; rintro _ ⟨W, O, hW1, hW2, hO, rfl, hok⟩
        refine SXL.nil (stepQ.mk _ rfl rfl ?_)
        refine SXA.take 8 2 rfl (by kernel_rfl) rfl ?_
        refine SXL.move rfl ?_
        refine SXL.extract rfl rfl ?_
        refine SXL.nil ⟨rfl, rfl, rfl, ?_⟩
        refine SXA.takeM 10 2 rfl (by kernel_rfl) rfl ?_
        refine SXL.extract rfl rfl ?_
        refine SXL.extract rfl rfl ?_
        refine SXL.nil ⟨rfl, rfl, rfl, ?_⟩
        refine SXA.all [14] (by kernel_rfl) rfl ⟨⟨?_, rfl⟩, trivial⟩
        refine (show SXL _ _ [_] _ _ from ?_)
        refine SXL.store 4 sz_117 rfl rfl rfl rfl hW1 (putAt_all _ _ (by simp [hW1])) ?_ hW2
        refine SXL.nil (stepQ.mkL _ (by kernel_rfl) rfl rfl ?_)
        refine SXA.all [15] (by kernel_rfl) rfl ⟨⟨?_, rfl⟩, trivial⟩
        refine (show SXL _ _ [_] _ _ from ?_)
        refine SXL.store 3 sz_114 rfl rfl rfl rfl (by simp [hO]) (putAt_all _ _ (by simp [hO])) ?_ (ints_isOne _)
        refine SXL.nil (stepQ.mkL _ (by kernel_rfl) rfl rfl ?_)
        refine SXA.takeM 16 1 rfl (by kernel_rfl) rfl ?_
        refine SXL.assign rfl ?_
        refine SXL.nil ⟨rfl, rfl, rfl, ?_⟩
        refine SXA.done (by kernel_rfl) ?_
        refine SXL.nil ?_
        refine thenQ.normal ?_
        refine SX.seq ?_
        refine SX.seq ?_
        refine SX.region ?_
        refine SXL.move rfl ?_
        refine SXL.neqI rfl rfl ?_
        refine SXL.nil ?_
        refine thenQ.normal ?_
        refine SX.condP rfl (fun c22 => ?_) (fun c22 => ?_)
        · refine SX.seq ?_
          refine SX.region ?_
          refine SXL.buildS pl_23 zp_23 rfl rfl ?_
          refine SXL.move rfl ?_
          refine SXL.store 1 sz_23 rfl rfl rfl rfl rfl rfl ?_
          refine SXL.assign rfl ?_
          refine SXL.nil ?_
          refine thenQ.normal ?_
          refine SX.ret ?_
          refine thenQ.ret ?_
          refine retQ.two (ResAt.cellNo 1 sh_23 rfl rfl rfl) (ResAt.tmp rfl) ?_
          rw [givesLo, givesHi, ← hA, if_neg c22, if_neg c22]
        · refine SX.skip ?_
          refine thenQ.normal ?_
          refine SX.seq ?_
          have hc22 := Decidable.not_not.1 c22
          obtain ⟨hv, hwk, ht⟩ := toldE_valid (hA ▸ hc22)
          obtain ⟨rfl, rfl⟩ := hok hv ((hp hv).2 hwk) ht
          obtain ⟨g1, g2⟩ := outA_at (hA ▸ hc22)
          have hH := hv.1
          unfold HeadP at hH
          refine SX.region ?_
          refine SXL.move rfl ?_
          refine SXL.indexA el_114 rfl rfl (by omega) ?_
          refine SXL.loadNo 3 sh_23 rfl rfl (ints_take2' (M := outA s) (i := week.toNat) (by omega) (by rw [hO]; omega)) ?_
          refine SXL.store 1 sz_23 rfl rfl rfl rfl rfl rfl ?_
          refine SXL.assign rfl ?_
          refine SXL.nil ?_
          refine thenQ.normal ?_
          refine SX.ret ?_
          refine retQ.two (ResAt.cellNo 1 sh_23 rfl rfl rfl) (ResAt.tmp rfl) ?_
          rw [← hA, hc22, g1, g2]
  · refine (show SXL _ _ [_] _ _ from ?_)
    refine SXL.alloc zp_117 ?_; intro b2
    refine SXL.nil (stepQ.mk _ rfl rfl ?_)
    refine SXA.all [5, 13] (by kernel_rfl) rfl ⟨⟨?_, rfl⟩, ⟨?_, rfl⟩, trivial⟩
    · refine (show SXL _ _ [_] _ _ from ?_)
      refine SXL.buildSlice et_35 zp_3 rfl rfl rfl rfl ?_; intro b3
      refine SXL.nil (stepQ.mk _ rfl rfl ?_)
      refine SXA.take 6 1 rfl (by kernel_rfl) rfl ?_
      refine SXL.call1 (.bool (decide (Wi week 0 (IntKind.i64.wrap (s.weeks - 1))))) fn_78 rfl (fun w hI => in1_own hI 3 week 0 (IntKind.i64.wrap (s.weeks - 1)) rfl) ?_
      refine SXL.nil ⟨rfl, rfl, rfl, ?_⟩
      refine SXA.all [7, 13] (by kernel_rfl) rfl ⟨⟨?_, rfl⟩, ⟨?_, rfl⟩, trivial⟩
      · refine (show SXL _ _ [_] _ _ from ?_)
        refine SXL.callP (AskR s bo ro bc rc (Wi week 0 (IntKind.i64.wrap (s.weeks - 1))) 11) fn_75 rfl (fun w hI => asked_any s bo ro bc rc (Wi week 0 (IntKind.i64.wrap (s.weeks - 1))) 11 hb hr w (hg.inv hI) (hs.inv hI)) ?_; rintro _ ⟨W, O, hW1, hW2, hO, rfl, hok⟩
        refine SXL.nil (stepQ.mk _ rfl rfl ?_)
        refine SXA.take 8 2 rfl (by kernel_rfl) rfl ?_
        refine SXL.move rfl ?_
        refine SXL.extract rfl rfl ?_
        refine SXL.nil ⟨rfl, rfl, rfl, ?_⟩
        refine SXA.takeM 10 2 rfl (by kernel_rfl) rfl ?_
        refine SXL.extract rfl rfl ?_
        refine SXL.extract rfl rfl ?_
        refine SXL.nil ⟨rfl, rfl, rfl, ?_⟩
        refine SXA.all [13] (by kernel_rfl) rfl ⟨⟨?_, rfl⟩, trivial⟩
        refine (show SXL _ _ [_] _ _ from ?_)
        refine SXL.alloc zp_114 ?_; intro b4
        refine SXL.nil (stepQ.mk _ rfl rfl ?_)
        refine SXA.all [14] (by kernel_rfl) rfl ⟨⟨?_, rfl⟩, trivial⟩
        refine (show SXL _ _ [_] _ _ from ?_)
        refine SXL.store 2 sz_117 rfl rfl rfl rfl hW1 (putAt_all _ _ (by simp [hW1])) ?_ hW2
        refine SXL.nil (stepQ.mkL _ (by kernel_rfl) rfl rfl ?_)
        refine SXA.all [15] (by kernel_rfl) rfl ⟨⟨?_, rfl⟩, trivial⟩
        refine (show SXL _ _ [_] _ _ from ?_)
        refine SXL.store 4 sz_114 rfl rfl rfl rfl (by simp [hO]) (putAt_all _ _ (by simp [hO])) ?_ (ints_isOne _)
        refine SXL.nil (stepQ.mkL _ (by kernel_rfl) rfl rfl ?_)
        refine SXA.takeM 16 1 rfl (by kernel_rfl) rfl ?_
        refine SXL.assign rfl ?_
        refine SXL.nil ⟨rfl, rfl, rfl, ?_⟩
        refine SXA.done (by kernel_rfl) ?_
        refine SXL.nil ?_
        refine thenQ.normal ?_
        refine SX.seq ?_
        refine SX.seq ?_
        refine SX.region ?_
        refine SXL.move rfl ?_
        refine SXL.neqI rfl rfl ?_
        refine SXL.nil ?_
        refine thenQ.normal ?_
        refine SX.condP rfl (fun c22 => ?_) (fun c22 => ?_)
        · refine SX.seq ?_
          refine SX.region ?_
          refine SXL.buildS pl_23 zp_23 rfl rfl ?_
          refine SXL.move rfl ?_
          refine SXL.store 1 sz_23 rfl rfl rfl rfl rfl rfl ?_
          refine SXL.assign rfl ?_
          refine SXL.nil ?_
          refine thenQ.normal ?_
          refine SX.ret ?_
          refine thenQ.ret ?_
          refine retQ.two (ResAt.cellNo 1 sh_23 rfl rfl rfl) (ResAt.tmp rfl) ?_
          rw [givesLo, givesHi, ← hA, if_neg c22, if_neg c22]
        · refine SX.skip ?_
          refine thenQ.normal ?_
          refine SX.seq ?_
          have hc22 := Decidable.not_not.1 c22
          obtain ⟨hv, hwk, ht⟩ := toldE_valid (hA ▸ hc22)
          obtain ⟨rfl, rfl⟩ := hok hv ((hp hv).2 hwk) ht
          obtain ⟨g1, g2⟩ := outA_at (hA ▸ hc22)
          have hH := hv.1
          unfold HeadP at hH
          refine SX.region ?_
          refine SXL.move rfl ?_
          refine SXL.indexA el_114 rfl rfl (by omega) ?_
          refine SXL.loadNo 4 sh_23 rfl rfl (ints_take2' (M := outA s) (i := week.toNat) (by omega) (by rw [hO]; omega)) ?_
          refine SXL.store 1 sz_23 rfl rfl rfl rfl rfl rfl ?_
          refine SXL.assign rfl ?_
          refine SXL.nil ?_
          refine thenQ.normal ?_
          refine SX.ret ?_
          refine retQ.two (ResAt.cellNo 1 sh_23 rfl rfl rfl) (ResAt.tmp rfl) ?_
          rw [← hA, hc22, g1, g2]
      · refine (show SXL _ _ [_] _ _ from ?_)
        refine SXL.alloc zp_114 ?_; intro b4
        refine SXL.nil (stepQ.mk _ rfl rfl ?_)
        refine SXA.all [7] (by kernel_rfl) rfl ⟨⟨?_, rfl⟩, trivial⟩
        refine (show SXL _ _ [_] _ _ from ?_)
        refine SXL.callP (AskR s bo ro bc rc (Wi week 0 (IntKind.i64.wrap (s.weeks - 1))) 11) fn_75 rfl (fun w hI => asked_any s bo ro bc rc (Wi week 0 (IntKind.i64.wrap (s.weeks - 1))) 11 hb hr w (hg.inv hI) (hs.inv hI)) ?_; rintro _ ⟨W, O, hW1, hW2, hO, rfl, hok⟩
        refine SXL.nil (stepQ.mk _ rfl rfl ?_)
        refine SXA.take 8 2 rfl (by kernel_rfl) rfl ?_
        refine SXL.move rfl ?_
        refine SXL.extract rfl rfl ?_
        refine SXL.nil ⟨rfl, rfl, rfl, ?_⟩
        refine SXA.takeM 10 2 rfl (by kernel_rfl) rfl ?_
        refine SXL.extract rfl rfl ?_
        refine SXL.extract rfl rfl ?_
        refine SXL.nil ⟨rfl, rfl, rfl, ?_⟩
        refine SXA.all [14] (by kernel_rfl) rfl ⟨⟨?_, rfl⟩, trivial⟩
        refine (show SXL _ _ [_] _ _ from ?_)
        refine SXL.store 2 sz_117 rfl rfl rfl rfl hW1 (putAt_all _ _ (by simp [hW1])) ?_ hW2
        refine SXL.nil (stepQ.mkL _ (by kernel_rfl) rfl rfl ?_)
        refine SXA.all [15] (by kernel_rfl) rfl ⟨⟨?_, rfl⟩, trivial⟩
        refine (show SXL _ _ [_] _ _ from ?_)
        refine SXL.store 4 sz_114 rfl rfl rfl rfl (by simp [hO]) (putAt_all _ _ (by simp [hO])) ?_ (ints_isOne _)
        refine SXL.nil (stepQ.mkL _ (by kernel_rfl) rfl rfl ?_)
        refine SXA.takeM 16 1 rfl (by kernel_rfl) rfl ?_
        refine SXL.assign rfl ?_
        refine SXL.nil ⟨rfl, rfl, rfl, ?_⟩
        refine SXA.done (by kernel_rfl) ?_
        refine SXL.nil ?_
        refine thenQ.normal ?_
        refine SX.seq ?_
        refine SX.seq ?_
        refine SX.region ?_
        refine SXL.move rfl ?_
        refine SXL.neqI rfl rfl ?_
        refine SXL.nil ?_
        refine thenQ.normal ?_
        refine SX.condP rfl (fun c22 => ?_) (fun c22 => ?_)
        · refine SX.seq ?_
          refine SX.region ?_
          refine SXL.buildS pl_23 zp_23 rfl rfl ?_
          refine SXL.move rfl ?_
          refine SXL.store 1 sz_23 rfl rfl rfl rfl rfl rfl ?_
          refine SXL.assign rfl ?_
          refine SXL.nil ?_
          refine thenQ.normal ?_
          refine SX.ret ?_
          refine thenQ.ret ?_
          refine retQ.two (ResAt.cellNo 1 sh_23 rfl rfl rfl) (ResAt.tmp rfl) ?_
          rw [givesLo, givesHi, ← hA, if_neg c22, if_neg c22]
        · refine SX.skip ?_
          refine thenQ.normal ?_
          refine SX.seq ?_
          have hc22 := Decidable.not_not.1 c22
          obtain ⟨hv, hwk, ht⟩ := toldE_valid (hA ▸ hc22)
          obtain ⟨rfl, rfl⟩ := hok hv ((hp hv).2 hwk) ht
          obtain ⟨g1, g2⟩ := outA_at (hA ▸ hc22)
          have hH := hv.1
          unfold HeadP at hH
          refine SX.region ?_
          refine SXL.move rfl ?_
          refine SXL.indexA el_114 rfl rfl (by omega) ?_
          refine SXL.loadNo 4 sh_23 rfl rfl (ints_take2' (M := outA s) (i := week.toNat) (by omega) (by rw [hO]; omega)) ?_
          refine SXL.store 1 sz_23 rfl rfl rfl rfl rfl rfl ?_
          refine SXL.assign rfl ?_
          refine SXL.nil ?_
          refine thenQ.normal ?_
          refine SX.ret ?_
          refine retQ.two (ResAt.cellNo 1 sh_23 rfl rfl rfl) (ResAt.tmp rfl) ?_
          rw [← hA, hc22, g1, g2]
    · refine (show SXL _ _ [_] _ _ from ?_)
      refine SXL.alloc zp_114 ?_; intro b3
      refine SXL.nil (stepQ.mk _ rfl rfl ?_)
      refine SXA.all [5] (by kernel_rfl) rfl ⟨⟨?_, rfl⟩, trivial⟩
      refine (show SXL _ _ [_] _ _ from ?_)
      refine SXL.buildSlice et_35 zp_3 rfl rfl rfl rfl ?_; intro b4
      refine SXL.nil (stepQ.mk _ rfl rfl ?_)
      refine SXA.take 6 1 rfl (by kernel_rfl) rfl ?_
      refine SXL.call1 (.bool (decide (Wi week 0 (IntKind.i64.wrap (s.weeks - 1))))) fn_78 rfl (fun w hI => in1_own hI 4 week 0 (IntKind.i64.wrap (s.weeks - 1)) rfl) ?_
      refine SXL.nil ⟨rfl, rfl, rfl, ?_⟩
      refine SXA.all [7] (by kernel_rfl) rfl ⟨⟨?_, rfl⟩, trivial⟩
      refine (show SXL _ _ [_] _ _ from ?_)
      refine SXL.callP (AskR s bo ro bc rc (Wi week 0 (IntKind.i64.wrap (s.weeks - 1))) 11) fn_75 rfl (fun w hI => asked_any s bo ro bc rc (Wi week 0 (IntKind.i64.wrap (s.weeks - 1))) 11 hb hr w (hg.inv hI) (hs.inv hI)) ?_; rintro _ ⟨W, O, hW1, hW2, hO, rfl, hok⟩
      refine SXL.nil (stepQ.mk _ rfl rfl ?_)
      refine SXA.take 8 2 rfl (by kernel_rfl) rfl ?_
      refine SXL.move rfl ?_
      refine SXL.extract rfl rfl ?_
      refine SXL.nil ⟨rfl, rfl, rfl, ?_⟩
      refine SXA.takeM 10 2 rfl (by kernel_rfl) rfl ?_
      refine SXL.extract rfl rfl ?_
      refine SXL.extract rfl rfl ?_
      refine SXL.nil ⟨rfl, rfl, rfl, ?_⟩
      refine SXA.all [14] (by kernel_rfl) rfl ⟨⟨?_, rfl⟩, trivial⟩
      refine (show SXL _ _ [_] _ _ from ?_)
      refine SXL.store 2 sz_117 rfl rfl rfl rfl hW1 (putAt_all _ _ (by simp [hW1])) ?_ hW2
      refine SXL.nil (stepQ.mkL _ (by kernel_rfl) rfl rfl ?_)
      refine SXA.all [15] (by kernel_rfl) rfl ⟨⟨?_, rfl⟩, trivial⟩
      refine (show SXL _ _ [_] _ _ from ?_)
      refine SXL.store 3 sz_114 rfl rfl rfl rfl (by simp [hO]) (putAt_all _ _ (by simp [hO])) ?_ (ints_isOne _)
      refine SXL.nil (stepQ.mkL _ (by kernel_rfl) rfl rfl ?_)
      refine SXA.takeM 16 1 rfl (by kernel_rfl) rfl ?_
      refine SXL.assign rfl ?_
      refine SXL.nil ⟨rfl, rfl, rfl, ?_⟩
      refine SXA.done (by kernel_rfl) ?_
      refine SXL.nil ?_
      refine thenQ.normal ?_
      refine SX.seq ?_
      refine SX.seq ?_
      refine SX.region ?_
      refine SXL.move rfl ?_
      refine SXL.neqI rfl rfl ?_
      refine SXL.nil ?_
      refine thenQ.normal ?_
      refine SX.condP rfl (fun c22 => ?_) (fun c22 => ?_)
      · refine SX.seq ?_
        refine SX.region ?_
        refine SXL.buildS pl_23 zp_23 rfl rfl ?_
        refine SXL.move rfl ?_
        refine SXL.store 1 sz_23 rfl rfl rfl rfl rfl rfl ?_
        refine SXL.assign rfl ?_
        refine SXL.nil ?_
        refine thenQ.normal ?_
        refine SX.ret ?_
        refine thenQ.ret ?_
        refine retQ.two (ResAt.cellNo 1 sh_23 rfl rfl rfl) (ResAt.tmp rfl) ?_
        rw [givesLo, givesHi, ← hA, if_neg c22, if_neg c22]
      · refine SX.skip ?_
        refine thenQ.normal ?_
        refine SX.seq ?_
        have hc22 := Decidable.not_not.1 c22
        obtain ⟨hv, hwk, ht⟩ := toldE_valid (hA ▸ hc22)
        obtain ⟨rfl, rfl⟩ := hok hv ((hp hv).2 hwk) ht
        obtain ⟨g1, g2⟩ := outA_at (hA ▸ hc22)
        have hH := hv.1
        unfold HeadP at hH
        refine SX.region ?_
        refine SXL.move rfl ?_
        refine SXL.indexA el_114 rfl rfl (by omega) ?_
        refine SXL.loadNo 3 sh_23 rfl rfl (ints_take2' (M := outA s) (i := week.toNat) (by omega) (by rw [hO]; omega)) ?_
        refine SXL.store 1 sz_23 rfl rfl rfl rfl rfl rfl ?_
        refine SXL.assign rfl ?_
        refine SXL.nil ?_
        refine thenQ.normal ?_
        refine SX.ret ?_
        refine retQ.two (ResAt.cellNo 1 sh_23 rfl rfl rfl) (ResAt.tmp rfl) ?_
        rw [← hA, hc22, g1, g2]
  · refine (show SXL _ _ [_] _ _ from ?_)
    refine SXL.alloc zp_114 ?_; intro b2
    refine SXL.nil (stepQ.mk _ rfl rfl ?_)
    refine SXA.all [5, 12] (by kernel_rfl) rfl ⟨⟨?_, rfl⟩, ⟨?_, rfl⟩, trivial⟩
    · refine (show SXL _ _ [_] _ _ from ?_)
      refine SXL.buildSlice et_35 zp_3 rfl rfl rfl rfl ?_; intro b3
      refine SXL.nil (stepQ.mk _ rfl rfl ?_)
      refine SXA.take 6 1 rfl (by kernel_rfl) rfl ?_
      refine SXL.call1 (.bool (decide (Wi week 0 (IntKind.i64.wrap (s.weeks - 1))))) fn_78 rfl (fun w hI => in1_own hI 3 week 0 (IntKind.i64.wrap (s.weeks - 1)) rfl) ?_
      refine SXL.nil ⟨rfl, rfl, rfl, ?_⟩
      refine SXA.all [7, 12] (by kernel_rfl) rfl ⟨⟨?_, rfl⟩, ⟨?_, rfl⟩, trivial⟩
      · refine (show SXL _ _ [_] _ _ from ?_)
        refine SXL.callP (AskR s bo ro bc rc (Wi week 0 (IntKind.i64.wrap (s.weeks - 1))) 11) fn_75 rfl (fun w hI => asked_any s bo ro bc rc (Wi week 0 (IntKind.i64.wrap (s.weeks - 1))) 11 hb hr w (hg.inv hI) (hs.inv hI)) ?_; rintro _ ⟨W, O, hW1, hW2, hO, rfl, hok⟩
        refine SXL.nil (stepQ.mk _ rfl rfl ?_)
        refine SXA.take 8 2 rfl (by kernel_rfl) rfl ?_
        refine SXL.move rfl ?_
        refine SXL.extract rfl rfl ?_
        refine SXL.nil ⟨rfl, rfl, rfl, ?_⟩
        refine SXA.takeM 10 2 rfl (by kernel_rfl) rfl ?_
        refine SXL.extract rfl rfl ?_
        refine SXL.extract rfl rfl ?_
        refine SXL.nil ⟨rfl, rfl, rfl, ?_⟩
        refine SXA.all [12] (by kernel_rfl) rfl ⟨⟨?_, rfl⟩, trivial⟩
        refine (show SXL _ _ [_] _ _ from ?_)
        refine SXL.alloc zp_117 ?_; intro b4
        refine SXL.nil (stepQ.mk _ rfl rfl ?_)
        refine SXA.all [14] (by kernel_rfl) rfl ⟨⟨?_, rfl⟩, trivial⟩
        refine (show SXL _ _ [_] _ _ from ?_)
        refine SXL.store 4 sz_117 rfl rfl rfl rfl hW1 (putAt_all _ _ (by simp [hW1])) ?_ hW2
        refine SXL.nil (stepQ.mkL _ (by kernel_rfl) rfl rfl ?_)
        refine SXA.all [15] (by kernel_rfl) rfl ⟨⟨?_, rfl⟩, trivial⟩
        refine (show SXL _ _ [_] _ _ from ?_)
        refine SXL.store 2 sz_114 rfl rfl rfl rfl (by simp [hO]) (putAt_all _ _ (by simp [hO])) ?_ (ints_isOne _)
        refine SXL.nil (stepQ.mkL _ (by kernel_rfl) rfl rfl ?_)
        refine SXA.takeM 16 1 rfl (by kernel_rfl) rfl ?_
        refine SXL.assign rfl ?_
        refine SXL.nil ⟨rfl, rfl, rfl, ?_⟩
        refine SXA.done (by kernel_rfl) ?_
        refine SXL.nil ?_
        refine thenQ.normal ?_
        refine SX.seq ?_
        refine SX.seq ?_
        refine SX.region ?_
        refine SXL.move rfl ?_
        refine SXL.neqI rfl rfl ?_
        refine SXL.nil ?_
        refine thenQ.normal ?_
        refine SX.condP rfl (fun c22 => ?_) (fun c22 => ?_)
        · refine SX.seq ?_
          refine SX.region ?_
          refine SXL.buildS pl_23 zp_23 rfl rfl ?_
          refine SXL.move rfl ?_
          refine SXL.store 1 sz_23 rfl rfl rfl rfl rfl rfl ?_
          refine SXL.assign rfl ?_
          refine SXL.nil ?_
          refine thenQ.normal ?_
          refine SX.ret ?_
          refine thenQ.ret ?_
          refine retQ.two (ResAt.cellNo 1 sh_23 rfl rfl rfl) (ResAt.tmp rfl) ?_
          rw [givesLo, givesHi, ← hA, if_neg c22, if_neg c22]
        · refine SX.skip ?_
          refine thenQ.normal ?_
          refine SX.seq ?_
          have hc22 := Decidable.not_not.1 c22
          obtain ⟨hv, hwk, ht⟩ := toldE_valid (hA ▸ hc22)
          obtain ⟨rfl, rfl⟩ := hok hv ((hp hv).2 hwk) ht
          obtain ⟨g1, g2⟩ := outA_at (hA ▸ hc22)
          have hH := hv.1
          unfold HeadP at hH
          refine SX.region ?_
          refine SXL.move rfl ?_
          refine SXL.indexA el_114 rfl rfl (by omega) ?_
          refine SXL.loadNo 2 sh_23 rfl rfl (ints_take2' (M := outA s) (i := week.toNat) (by omega) (by rw [hO]; omega)) ?_
          refine SXL.store 1 sz_23 rfl rfl rfl rfl rfl rfl ?_
          refine SXL.assign rfl ?_
          refine SXL.nil ?_
          refine thenQ.normal ?_
          refine SX.ret ?_
          refine retQ.two (ResAt.cellNo 1 sh_23 rfl rfl rfl) (ResAt.tmp rfl) ?_
          rw [← hA, hc22, g1, g2]
      · refine (show SXL _ _ [_] _ _ from ?_)
        refine SXL.alloc zp_117 ?_; intro b4
        refine SXL.nil (stepQ.mk _ rfl rfl ?_)
        refine SXA.all [7] (by kernel_rfl) rfl ⟨⟨?_, rfl⟩, trivial⟩
        refine (show SXL _ _ [_] _ _ from ?_)
        refine SXL.callP (AskR s bo ro bc rc (Wi week 0 (IntKind.i64.wrap (s.weeks - 1))) 11) fn_75 rfl (fun w hI => asked_any s bo ro bc rc (Wi week 0 (IntKind.i64.wrap (s.weeks - 1))) 11 hb hr w (hg.inv hI) (hs.inv hI)) ?_; rintro _ ⟨W, O, hW1, hW2, hO, rfl, hok⟩
        refine SXL.nil (stepQ.mk _ rfl rfl ?_)
        refine SXA.take 8 2 rfl (by kernel_rfl) rfl ?_
        refine SXL.move rfl ?_
        refine SXL.extract rfl rfl ?_
        refine SXL.nil ⟨rfl, rfl, rfl, ?_⟩
        refine SXA.takeM 10 2 rfl (by kernel_rfl) rfl ?_
        refine SXL.extract rfl rfl ?_
        refine SXL.extract rfl rfl ?_
        refine SXL.nil ⟨rfl, rfl, rfl, ?_⟩
        refine SXA.all [14] (by kernel_rfl) rfl ⟨⟨?_, rfl⟩, trivial⟩
        refine (show SXL _ _ [_] _ _ from ?_)
        refine SXL.store 4 sz_117 rfl rfl rfl rfl hW1 (putAt_all _ _ (by simp [hW1])) ?_ hW2
        refine SXL.nil (stepQ.mkL _ (by kernel_rfl) rfl rfl ?_)
        refine SXA.all [15] (by kernel_rfl) rfl ⟨⟨?_, rfl⟩, trivial⟩
        refine (show SXL _ _ [_] _ _ from ?_)
        refine SXL.store 2 sz_114 rfl rfl rfl rfl (by simp [hO]) (putAt_all _ _ (by simp [hO])) ?_ (ints_isOne _)
        refine SXL.nil (stepQ.mkL _ (by kernel_rfl) rfl rfl ?_)
        refine SXA.takeM 16 1 rfl (by kernel_rfl) rfl ?_
        refine SXL.assign rfl ?_
        refine SXL.nil ⟨rfl, rfl, rfl, ?_⟩
        refine SXA.done (by kernel_rfl) ?_
        refine SXL.nil ?_
        refine thenQ.normal ?_
        refine SX.seq ?_
        refine SX.seq ?_
        refine SX.region ?_
        refine SXL.move rfl ?_
        refine SXL.neqI rfl rfl ?_
        refine SXL.nil ?_
        refine thenQ.normal ?_
        refine SX.condP rfl (fun c22 => ?_) (fun c22 => ?_)
        · refine SX.seq ?_
          refine SX.region ?_
          refine SXL.buildS pl_23 zp_23 rfl rfl ?_
          refine SXL.move rfl ?_
          refine SXL.store 1 sz_23 rfl rfl rfl rfl rfl rfl ?_
          refine SXL.assign rfl ?_
          refine SXL.nil ?_
          refine thenQ.normal ?_
          refine SX.ret ?_
          refine thenQ.ret ?_
          refine retQ.two (ResAt.cellNo 1 sh_23 rfl rfl rfl) (ResAt.tmp rfl) ?_
          rw [givesLo, givesHi, ← hA, if_neg c22, if_neg c22]
        · refine SX.skip ?_
          refine thenQ.normal ?_
          refine SX.seq ?_
          have hc22 := Decidable.not_not.1 c22
          obtain ⟨hv, hwk, ht⟩ := toldE_valid (hA ▸ hc22)
          obtain ⟨rfl, rfl⟩ := hok hv ((hp hv).2 hwk) ht
          obtain ⟨g1, g2⟩ := outA_at (hA ▸ hc22)
          have hH := hv.1
          unfold HeadP at hH
          refine SX.region ?_
          refine SXL.move rfl ?_
          refine SXL.indexA el_114 rfl rfl (by omega) ?_
          refine SXL.loadNo 2 sh_23 rfl rfl (ints_take2' (M := outA s) (i := week.toNat) (by omega) (by rw [hO]; omega)) ?_
          refine SXL.store 1 sz_23 rfl rfl rfl rfl rfl rfl ?_
          refine SXL.assign rfl ?_
          refine SXL.nil ?_
          refine thenQ.normal ?_
          refine SX.ret ?_
          refine retQ.two (ResAt.cellNo 1 sh_23 rfl rfl rfl) (ResAt.tmp rfl) ?_
          rw [← hA, hc22, g1, g2]
    · refine (show SXL _ _ [_] _ _ from ?_)
      refine SXL.alloc zp_117 ?_; intro b3
      refine SXL.nil (stepQ.mk _ rfl rfl ?_)
      refine SXA.all [5] (by kernel_rfl) rfl ⟨⟨?_, rfl⟩, trivial⟩
      refine (show SXL _ _ [_] _ _ from ?_)
      refine SXL.buildSlice et_35 zp_3 rfl rfl rfl rfl ?_; intro b4
      refine SXL.nil (stepQ.mk _ rfl rfl ?_)
      refine SXA.take 6 1 rfl (by kernel_rfl) rfl ?_
      refine SXL.call1 (.bool (decide (Wi week 0 (IntKind.i64.wrap (s.weeks - 1))))) fn_78 rfl (fun w hI => in1_own hI 4 week 0 (IntKind.i64.wrap (s.weeks - 1)) rfl) ?_
      refine SXL.nil ⟨rfl, rfl, rfl, ?_⟩
      refine SXA.all [7] (by kernel_rfl) rfl ⟨⟨?_, rfl⟩, trivial⟩
      refine (show SXL _ _ [_] _ _ from ?_)
      refine SXL.callP (AskR s bo ro bc rc (Wi week 0 (IntKind.i64.wrap (s.weeks - 1))) 11) fn_75 rfl (fun w hI => asked_any s bo ro bc rc (Wi week 0 (IntKind.i64.wrap (s.weeks - 1))) 11 hb hr w (hg.inv hI) (hs.inv hI)) ?_; rintro _ ⟨W, O, hW1, hW2, hO, rfl, hok⟩
      refine SXL.nil (stepQ.mk _ rfl rfl ?_)
      refine SXA.take 8 2 rfl (by kernel_rfl) rfl ?_
      refine SXL.move rfl ?_
      refine SXL.extract rfl rfl ?_
      refine SXL.nil ⟨rfl, rfl, rfl, ?_⟩
      refine SXA.takeM 10 2 rfl (by kernel_rfl) rfl ?_
      refine SXL.extract rfl rfl ?_
      refine SXL.extract rfl rfl ?_
      refine SXL.nil ⟨rfl, rfl, rfl, ?_⟩
      refine SXA.all [14] (by kernel_rfl) rfl ⟨⟨?_, rfl⟩, trivial⟩
      refine (show SXL _ _ [_] _ _ from ?_)
      refine SXL.store 3 sz_117 rfl rfl rfl rfl hW1 (putAt_all _ _ (by simp [hW1])) ?_ hW2
      refine SXL.nil (stepQ.mkL _ (by kernel_rfl) rfl rfl ?_)
      refine SXA.all [15] (by kernel_rfl) rfl ⟨⟨?_, rfl⟩, trivial⟩
      refine (show SXL _ _ [_] _ _ from ?_)
      refine SXL.store 2 sz_114 rfl rfl rfl rfl (by simp [hO]) (putAt_all _ _ (by simp [hO])) ?_ (ints_isOne _)
      refine SXL.nil (stepQ.mkL _ (by kernel_rfl) rfl rfl ?_)
      refine SXA.takeM 16 1 rfl (by kernel_rfl) rfl ?_
      refine SXL.assign rfl ?_
      refine SXL.nil ⟨rfl, rfl, rfl, ?_⟩
      refine SXA.done (by kernel_rfl) ?_
      refine SXL.nil ?_
      refine thenQ.normal ?_
      refine SX.seq ?_
      refine SX.seq ?_
      refine SX.region ?_
      refine SXL.move rfl ?_
      refine SXL.neqI rfl rfl ?_
      refine SXL.nil ?_
      refine thenQ.normal ?_
      refine SX.condP rfl (fun c22 => ?_) (fun c22 => ?_)
      · refine SX.seq ?_
        refine SX.region ?_
        refine SXL.buildS pl_23 zp_23 rfl rfl ?_
        refine SXL.move rfl ?_
        refine SXL.store 1 sz_23 rfl rfl rfl rfl rfl rfl ?_
        refine SXL.assign rfl ?_
        refine SXL.nil ?_
        refine thenQ.normal ?_
        refine SX.ret ?_
        refine thenQ.ret ?_
        refine retQ.two (ResAt.cellNo 1 sh_23 rfl rfl rfl) (ResAt.tmp rfl) ?_
        rw [givesLo, givesHi, ← hA, if_neg c22, if_neg c22]
      · refine SX.skip ?_
        refine thenQ.normal ?_
        refine SX.seq ?_
        have hc22 := Decidable.not_not.1 c22
        obtain ⟨hv, hwk, ht⟩ := toldE_valid (hA ▸ hc22)
        obtain ⟨rfl, rfl⟩ := hok hv ((hp hv).2 hwk) ht
        obtain ⟨g1, g2⟩ := outA_at (hA ▸ hc22)
        have hH := hv.1
        unfold HeadP at hH
        refine SX.region ?_
        refine SXL.move rfl ?_
        refine SXL.indexA el_114 rfl rfl (by omega) ?_
        refine SXL.loadNo 2 sh_23 rfl rfl (ints_take2' (M := outA s) (i := week.toNat) (by omega) (by rw [hO]; omega)) ?_
        refine SXL.store 1 sz_23 rfl rfl rfl rfl rfl rfl ?_
        refine SXL.assign rfl ?_
        refine SXL.nil ?_
        refine thenQ.normal ?_
        refine SX.ret ?_
        refine retQ.two (ResAt.cellNo 1 sh_23 rfl rfl rfl) (ResAt.tmp rfl) ?_
        rw [← hA, hc22, g1, g2]
theorem sknown_any (s : Sp) (bo ro : Option Addr) (bc rc : Nat) (week need : Int) (hb : s.book.length ≤ 1000000) (hr : s.reads.length ≤ 1000000) (w : World) (hg : Gl w) (hs : SpAt w s bo ro) :
    CallsR Tryd.prog 24 [.agg ⟨[.int .i64 s.weeks, .int .i64 s.most, .int .i64 s.fall, .int .i64 s.a0, .int .i64 s.a1, .int .i64 s.w0, .int .i64 s.w1, (.slice bo s.book.length bc), (.slice ro s.reads.length rc)]⟩, .int .i64 week, .int .i64 need] w (fun v _ => v = .tuple ⟨[.int .u8 (knownV s week need), .int .i64 (toldE s week)]⟩) := by
  refine CallsR.of_SX (n := 30) (rs := [.tmp 6, .tmp 7]) Tryd.func24 rfl rfl rfl rfl ?_
  show SX _ _ _ ⟨[(0, .agg ⟨[.int .i64 s.weeks, .int .i64 s.most, .int .i64 s.fall, .int .i64 s.a0, .int .i64 s.a1, .int .i64 s.w0, .int .i64 s.w1, (.slice bo s.book.length bc), (.slice ro s.reads.length rc)]⟩), (1, .int .i64 week), (2, .int .i64 need)], [], []⟩
  refine SX.seq ?_
  refine SX.region ?_
  refine SXL.box rfl rfl ?_; intro b0
  refine SXL.assign rfl ?_
  refine SXL.assign rfl ?_
  refine SXL.nil ?_
  refine thenQ.normal ?_
  refine SX.seq ?_
  refine SX.region ?_
  refine SXL.loadNo 0 sh_27 rfl rfl rfl ?_
  refine SXL.move rfl ?_
  refine SXL.call1 (.tuple ⟨[.agg ⟨[.int .i64 ((givesLo s week)), .int .i64 ((givesHi s week))]⟩, .int .i64 (toldE s week)]⟩) fn_22 rfl (fun w hI => sgives_any s bo ro _ _ _ hb hr _ (hg.inv hI) (hs.inv hI)) ?_
  refine SXL.move rfl ?_
  refine SXL.extract rfl rfl ?_
  refine SXL.extract rfl rfl ?_
  refine SXL.alloc zp_23 ?_; intro b1
  refine SXL.store 1 sz_23 rfl rfl rfl rfl rfl rfl ?_
  refine SXL.assign rfl ?_
  refine SXL.nil ?_
  refine thenQ.normal ?_
  refine SX.seq ?_
  refine SX.block ?_
  refine SX.seq ?_
  refine SX.region ?_
  refine SXL.move rfl ?_
  refine SXL.neqI rfl rfl ?_
  refine SXL.assign rfl ?_
  refine SXL.nil ?_
  refine thenQ.normal ?_
  refine SX.condP rfl (fun c17 => ?_) (fun c17 => ?_)
  · refine SX.seq ?_
    refine SX.region ?_
    refine SXL.move rfl ?_
    refine SXL.assign rfl ?_
    refine SXL.assign rfl ?_
    refine SXL.nil ?_
    refine thenQ.normal ?_
    refine SX.ret ?_
    refine blockQ.ret ?_
    refine thenQ.ret ?_
    refine retQ.two (ResAt.tmp rfl) (ResAt.tmp rfl) ?_
    rw [knownV, if_pos c17]
  · refine SX.seq ?_
    refine SX.region ?_
    refine SXL.fieldAddr fp_23_0 rfl ?_
    refine SXL.load1o 1 sh_3 rfl rfl rfl ?_
    refine SXL.move rfl ?_
    refine SXL.geq rfl rfl ?_
    refine SXL.assign rfl ?_
    refine SXL.nil ?_
    refine thenQ.normal ?_
    refine SX.condP rfl (fun c22 => ?_) (fun c22 => ?_)
    · refine SX.seq ?_
      refine SX.region ?_
      refine SXL.assign rfl ?_
      refine SXL.assign rfl ?_
      refine SXL.nil ?_
      refine thenQ.normal ?_
      refine SX.ret ?_
      refine blockQ.ret ?_
      refine thenQ.ret ?_
      refine retQ.two (ResAt.tmp rfl) (ResAt.tmp rfl) ?_
      rw [knownV, if_neg c17, if_pos c22, Decidable.not_not.1 c17]
    · refine SX.seq ?_
      refine SX.region ?_
      refine SXL.fieldAddr fp_23_1 rfl ?_
      refine SXL.load1o 1 sh_3 rfl rfl rfl ?_
      refine SXL.move rfl ?_
      refine SXL.lss rfl rfl ?_
      refine SXL.assign rfl ?_
      refine SXL.nil ?_
      refine thenQ.normal ?_
      refine SX.condP rfl (fun c26 => ?_) (fun c26 => ?_)
      · refine SX.seq ?_
        refine SX.region ?_
        refine SXL.assign rfl ?_
        refine SXL.assign rfl ?_
        refine SXL.nil ?_
        refine thenQ.normal ?_
        refine SX.ret ?_
        refine blockQ.ret ?_
        refine thenQ.ret ?_
        refine retQ.two (ResAt.tmp rfl) (ResAt.tmp rfl) ?_
        rw [knownV, if_neg c17, if_neg c22, if_pos c26, Decidable.not_not.1 c17]
      · refine SX.skip ?_
        refine blockQ.normal ?_
        refine thenQ.normal ?_
        refine SX.seq ?_
        refine SX.region ?_
        refine SXL.assign rfl ?_
        refine SXL.assign rfl ?_
        refine SXL.nil ?_
        refine thenQ.normal ?_
        refine SX.ret ?_
        refine retQ.two (ResAt.tmp rfl) (ResAt.tmp rfl) ?_
        rw [knownV, if_neg c17, if_neg c22, if_neg c26, Decidable.not_not.1 c17]
end Go.Proofs.YtknflipongbngaaDoor

/- The walks of functions. -/
namespace Go.Proofs.YtknflipongbngaaDoor
open Go.X Go.S Go.RowKit
theorem askT (s : Sp) : askE s True 0 = toldE s 0 := by
  rw [show askE s True 0 = askE s True 11 from by simp [askE]]
  refine askE_told (week := 0) fun hv => ?_
  have hH := hv.1
  unfold HeadP at hH
  exact ⟨fun _ => ⟨by omega, by omega⟩, fun _ => trivial⟩
theorem IsR2.errs {s : Sp} {e : Int} (h : toldE s 0 = e) (he : e ≠ 0) : IsR2 (toldL s 0) (toldE s 0) (.tuple ⟨[.slice none 0 0, .int .i64 e]⟩) [Sl.nil.ent 3 []] := by
  have hl := toldL_bad h he
  refine ⟨Sl.nil, ?_, ?_, ?_⟩ <;> simp only [hl, h]
  · exact .none _
  · rfl
  · rfl
set_option maxHeartbeats 4000000 in
theorem srains_any (s : Sp) (bo ro : Option Addr) (bc rc : Nat) (hb : s.book.length ≤ 1000000) (hr : s.reads.length ≤ 1000000) (w : World) (hg : Gl w) (hs : SpAt w s bo ro) :
    CallsR Tryd.prog 20 [.agg ⟨[.int .i64 s.weeks, .int .i64 s.most, .int .i64 s.fall, .int .i64 s.a0, .int .i64 s.a1, .int .i64 s.w0, .int .i64 s.w1, (.slice bo s.book.length bc), (.slice ro s.reads.length rc)]⟩] w (IsR2 (toldL s 0) (toldE s 0)) := by
  refine CallsR.of_SX (n := 27) (rs := [.tmp 2, .tmp 3]) Tryd.func20 rfl rfl rfl rfl ?_
  show SX _ _ _ ⟨[(0, .agg ⟨[.int .i64 s.weeks, .int .i64 s.most, .int .i64 s.fall, .int .i64 s.a0, .int .i64 s.a1, .int .i64 s.w0, .int .i64 s.w1, (.slice bo s.book.length bc), (.slice ro s.reads.length rc)]⟩)], [], []⟩
  refine SX.seq ?_
  refine SX.region ?_
  refine SXL.box rfl rfl ?_; intro b0
  refine SXL.assign rfl ?_
  refine SXL.assign rfl ?_
  refine SXL.nil ?_
  refine thenQ.normal ?_
  refine SX.seq ?_
  refine SX.region ?_
  refine SXL.loadNo 0 sh_27 rfl rfl rfl ?_
  refine SXL.callP (AskR s bo ro bc rc (True) 0) fn_75 rfl (fun w hI => asked_any s bo ro bc rc (True) 0 hb hr w (hg.inv hI) (hs.inv hI)) ?_; rintro _ ⟨W, O, hW1, hW2, hO, rfl, hok⟩
  refine SXL.move rfl ?_
  refine SXL.extract rfl rfl ?_
  refine SXL.extract rfl rfl ?_
  refine SXL.extract rfl rfl ?_
  refine SXL.alloc zp_117 ?_; intro b1
  refine SXL.alloc zp_114 ?_; intro b2
  refine SXL.store 1 sz_117 rfl rfl rfl rfl hW1 (putAt_all _ _ (by simp [hW1])) ?_ hW2
  refine SXL.store 2 sz_114 rfl rfl rfl rfl (by simp [hO]) (putAt_all _ _ (by simp [hO])) ?_ (ints_isOne _)
  refine SXL.assign rfl ?_
  refine SXL.nil ?_
  refine thenQ.normal ?_
  refine SX.seq ?_
  refine SX.seq ?_
  refine SX.region ?_
  refine SXL.move rfl ?_
  refine SXL.neqI rfl rfl ?_
  refine SXL.nil ?_
  refine thenQ.normal ?_
  refine SX.condP rfl (fun c16 => ?_) (fun c16 => ?_)
  · refine SX.seq ?_
    refine SX.region ?_
    refine SXL.move rfl ?_
    refine SXL.assign rfl ?_
    refine SXL.assign rfl ?_
    refine SXL.nil ?_
    refine thenQ.normal ?_
    refine SX.ret ?_
    refine thenQ.ret ?_
    refine retQ.dead [Sl.nil.ent 3 []] rfl ?_
    refine retQ.two (ResAt.tmp rfl) (ResAt.tmp rfl) ?_
    exact IsR2.errs (askT s).symm c16
  · refine SX.skip ?_
    refine thenQ.normal ?_
    refine SX.seq ?_
    have hc16 := Decidable.not_not.1 c16
    have hTo : toldE s 0 = 0 := (askT s).symm.trans hc16
    obtain ⟨hv, hwk, ht⟩ := toldE_valid hTo
    obtain ⟨rfl, rfl⟩ := hok hv trivial ht
    have hH := hv.1
    unfold HeadP at hH
    refine SX.region ?_
    refine SXL.alloc zp_35 ?_; intro b3
    refine SXL.nil ?_
    refine thenQ.normal ?_
    refine SX.seq ?_
    refine SX.seq ?_
    refine SX.pad (Sl.nil.ent 3 []) rfl ?_
    refine SX.region ?_
    refine SXL.loadNo 1 sh_117 rfl rfl (takeAt_full (watC_len (by simp [flL]))) ?_
    refine SXL.callF (ItR s bo ro bc rc (flL s)) fn_76 rfl (fun w hI => it_any s bo ro bc rc (flL s) (by simp [flL]) w) ?_; rintro _ _ ⟨bi, rfl, rfl⟩
    refine SXL.nil ?_
    refine thenQ.normal ?_
    refine SX.block ?_
    refine SX.rangeFunc (f := 117) (nf := 31) (rs := []) rfl fn_117 Tryd.func117 rfl rfl rfl rfl ?_
    intro fn T r l ob hT hob
    refine SX.scope ?_
    refine SX.seq ?_
    refine SX.label ?_
    refine thenQ.normal ?_
    refine SX.seq ?_
    refine SX.region ?_
    refine SXL.fieldAddr fp_117_0 rfl ?_
    refine SXL.fieldAddr fp_27_4 rfl ?_
    refine SXL.fieldAddr fp_23_0 rfl ?_
    refine SXL.load1o 5 sh_3 rfl rfl rfl ?_
    refine SXL.assign rfl ?_
    refine SXL.nil ?_
    refine thenQ.normal ?_
    refine SX.block ?_
    refine SX.loopG (α := Nat × Sl × Nat × List Value) [0, 1] rfl (fun ⟨k, r1, n1, c1⟩ => [(3, .int .i64 (s.w0 + (k : Int)))]) (fun ⟨k, r1, n1, c1⟩ => [(3, (b3, .cells ⟨[r1.val n1]⟩ 35 (0, 0))), (4, r1.ent 3 c1)]) (fun ⟨k, r1, n1, c1⟩ => k ≤ rnN s ∧ r1.Ok n1 1 c1 ∧ c1 = ints (rnsTo s (baseL s) k)) (fun ⟨k, r1, n1, c1⟩ => (rnN s - k)) (0, Sl.nil, 0, []) ⟨Nat.zero_le _, .none _, rfl⟩ ⟨congrArg (fun z => some (Value.int .i64 z)) (show s.w0 = s.w0 + ((0 : Nat) : Int) by omega), trivial⟩ rfl ?_
    rintro ⟨k, r1, n1, c1⟩ ⟨hk, ho1, rfl⟩
    have hlen := rnsTo_len s (baseL s) k
    have hn1 := Ok.n ho1
    have hN : rnN s = (s.w1 + 1 - s.w0).toNat := rfl
    refine SX.seq ?_
    refine SX.seq ?_
    refine SX.region ?_
    refine SXL.move rfl ?_
    refine SXL.fieldAddr fp_117_0 rfl ?_
    refine SXL.fieldAddr fp_27_4 rfl ?_
    refine SXL.fieldAddr fp_23_1 rfl ?_
    refine SXL.load1o 5 sh_3 rfl rfl rfl ?_
    refine SXL.leq rfl rfl ?_
    refine SXL.nil ?_
    refine thenQ.normal ?_
    refine SX.condP rfl (fun c15 => ?_) (fun c15 => ?_)
    · refine SX.skip ?_
      refine thenQ.normal ?_
      refine SX.seq ?_
      refine SX.block ?_
      refine SX.seq ?_
      refine SX.region ?_
      refine SXL.loadNo 5 sh_117 rfl rfl (takeAt_full (watC_len (by simp [flL]))) ?_
      refine SXL.move rfl ?_
      refine SXL.callP (AfterR s (baseL s) (s.w0 + (k : Int))) fn_118 rfl (fun w hI => after_any s bo ro bc rc (flL s) (baseL s) hv (relW hv) _ w (hg.inv hI) (hs.inv hI)) ?_; rintro _ ⟨X, hX1, hX2, rfl⟩
      refine SXL.move rfl ?_
      refine SXL.extract rfl rfl ?_
      refine SXL.extract rfl rfl ?_
      refine SXL.alloc zp_114 ?_; intro b8
      refine SXL.store 8 sz_114 rfl rfl rfl rfl (by simp [hX1]) (putAt_all _ _ (by simp [hX1])) ?_ (ints_isOne _)
      refine SXL.assign rfl ?_
      refine SXL.nil ?_
      refine thenQ.normal ?_
      refine SX.seq ?_
      refine SX.seq ?_
      refine SX.region ?_
      refine SXL.move rfl ?_
      refine SXL.not rfl ?_
      refine SXL.nil ?_
      refine thenQ.normal ?_
      refine SX.condP rfl (fun c25 => ?_) (fun c25 => ?_)
      · refine SX.exit ?_
        refine thenQ.exit ?_
        refine blockQ.exit ?_
        refine thenQ.normal ?_
        refine SX.region ?_
        refine SXL.move rfl ?_
        refine SXL.add rfl rfl (by omega) ?_
        refine SXL.assign rfl ?_
        refine SXL.nil ?_
        refine thenQ.normal ?_
        refine ⟨(k + 1, _, _, _), Meets.mk _ ⟨congrArg (fun z => some (Value.int .i64 z)) (show s.w0 + (k : Int) + 1 = s.w0 + ((k + 1 : Nat) : Int) by omega), trivial⟩ ⟨rfl, rfl, trivial⟩ rfl, ?_, ?_⟩
        · refine ⟨by omega, ?_⟩
          first
            | exact ⟨o_25, by rw [rnsTo_yes hlv]; simp [ints_snoc]⟩
            | exact ⟨ho1, by rw [rnsTo_no c25]⟩
        · show rnN s - (k + 1) < rnN s - k; omega
      · refine SX.skip ?_
        refine thenQ.normal ?_
        refine SX.seq ?_
        have hlv := Decidable.not_not.1 c25
        obtain rfl := hX2 hlv
        refine SX.region ?_
        refine SXL.move rfl ?_
        refine SXL.move rfl ?_
        refine SXL.loadNo 8 sh_114 rfl rfl (takeAt_full (by simp)) ?_
        refine SXL.yield hT hob 7 rfl rfl rfl rfl rfl ?_
        refine SX.region ?_
        refine SXL.assign rfl ?_
        refine SXL.nil ?_
        refine ⟨rfl, ?_⟩
        refine SX.block ?_
        refine SX.region ?_
        refine SXL.load1o 3 sh_35 rfl rfl rfl ?_
        refine SXL.move rfl ?_
        refine SXL.buildSlice et_35 zp_3 rfl rfl rfl rfl ?_; intro b9
        refine SXL.append 4 ap_35 rfl rfl ho1 rfl (.inr ⟨_, _, rfl, Mem.own (i := 9) rfl (takeAt_all _)⟩) rfl rfl ⟨by simp only [maxLen]; omega, by omega⟩ ?_; intro r_25 o_25
        refine SXL.store 3 sz_35 rfl rfl rfl rfl rfl rfl ?_
        refine SXL.nil ?_
        refine blockQ.normal ?_
        refine ⟨rfl, ?_⟩
        refine SXL.not rfl ?_
        refine SXL.nil ?_
        refine thenQ.normal ?_
        refine SX.condP rfl (fun c30 => ?_) (fun c30 => ?_)
        · exfalso; exact c30 trivial
        refine SX.skip ?_
        refine blockQ.normal ?_
        refine thenQ.normal ?_
        refine SX.region ?_
        refine SXL.move rfl ?_
        refine SXL.add rfl rfl (by omega) ?_
        refine SXL.assign rfl ?_
        refine SXL.nil ?_
        refine thenQ.normal ?_
        refine ⟨(k + 1, _, _, _), Meets.mk _ ⟨congrArg (fun z => some (Value.int .i64 z)) (show s.w0 + (k : Int) + 1 = s.w0 + ((k + 1 : Nat) : Int) by omega), trivial⟩ ⟨rfl, rfl, trivial⟩ rfl, ?_, ?_⟩
        · refine ⟨by omega, ?_⟩
          first
            | exact ⟨o_25, by rw [rnsTo_yes hlv]; simp [ints_snoc]⟩
            | exact ⟨ho1, by rw [rnsTo_no c25]⟩
        · show rnN s - (k + 1) < rnN s - k; omega
    · refine SX.exit ?_
      refine thenQ.exit ?_
      refine thenQ.exit ?_
      refine blockQ.exit ?_
      refine scopeQ.normal ?_
      refine retQ.zeroN ?_
      refine ⟨7, rfl, ?_⟩
      refine blockQ.normal ?_
      refine thenQ.normal ?_
      refine SX.seq ?_
      obtain rfl : k = rnN s := by omega
      refine SX.region ?_
      refine SXL.load1o 3 sh_35 rfl rfl rfl ?_
      refine SXL.assign rfl ?_
      refine SXL.assign rfl ?_
      refine SXL.nil ?_
      refine thenQ.normal ?_
      refine SX.ret ?_
      refine retQ.unmark 6 rfl ?_
      refine retQ.sel [4] rfl rfl ?_
      refine retQ.two (ResAt.tmp rfl) (ResAt.tmp rfl) ?_
      have e2 := Ok.n ho1; subst e2; rw [toldL_ok hTo, hTo]; exact ⟨r1, ho1, rfl, rfl⟩
end Go.Proofs.YtknflipongbngaaDoor

/- What the package spring reckons of weeks: the same. Nothing of Go stands here. -/
namespace Go.S
open Go Go.X
def cmpV (a b : Int) : Int := if a < b then -1 else if b < a then 1 else 0
theorem cmpV_neg {a b : Int} : cmpV a b < 0 ↔ a < b := by
  unfold cmpV
  split
  · simp_all
  · split <;> simp_all
theorem outA0 {s : Sp} (he : toldE s 0 = 0) {k : Nat} (hk : k < s.weeks.toNat) : Lo (outA s) k = hLo (toldA s 0) k ∧ Hi (outA s) k = hHi (toldA s 0) k := by
  obtain ⟨hv, hw, ht⟩ := toldE_valid he
  have h1 := hv.1; unfold HeadP at h1
  have hA : toldA s 0 = lvsL s (baseL s) (rnsL s (baseL s)) := by rw [toldA, toldL_ok he]
  obtain ⟨a, b⟩ := mk20_at (oLo s.weeks.toNat (toldA s 0)) (oHi s.weeks.toNat (toldA s 0)) (w := k) (by omega)
  have hne : ¬(toldA s 0 = [] ∨ s.weeks.toNat ≤ k) := by
    rintro (h | h)
    · rw [hA] at h; exact ht (by simpa [lvsL] using h)
    · omega
  unfold outA outL
  rw [← hA, a, b, oLo, oHi, if_neg hne, if_neg hne]
  exact ⟨rfl, rfl⟩
theorem outL_at {s : Sp} {L : List Int} (hv : SpP s) (hne : rnsL s L ≠ []) {k : Nat} (hk : k < s.weeks.toNat) : Lo (outL s.weeks.toNat (lvsL s L (rnsL s L))) k = hLo (lvsL s L (rnsL s L)) k ∧ Hi (outL s.weeks.toNat (lvsL s L (rnsL s L))) k = hHi (lvsL s L (rnsL s L)) k := by
  have h1 := hv.1; unfold HeadP at h1
  obtain ⟨a, b⟩ := mk20_at (oLo s.weeks.toNat (lvsL s L (rnsL s L))) (oHi s.weeks.toNat (lvsL s L (rnsL s L))) (w := k) (by omega)
  have hn : ¬(lvsL s L (rnsL s L) = [] ∨ s.weeks.toNat ≤ k) := by
    rintro (h | h)
    · exact hne (by simpa [lvsL] using h)
    · omega
  unfold outL
  rw [a, b, oLo, oHi, if_neg hn, if_neg hn]
  exact ⟨rfl, rfl⟩
theorem outL_no {s : Sp} {L : List Int} (hv : SpP s) (hno : rnsL s L = []) {k : Nat} (hk : k < s.weeks.toNat) : Lo (outL s.weeks.toNat (lvsL s L (rnsL s L))) k = 0 ∧ Hi (outL s.weeks.toNat (lvsL s L (rnsL s L))) k = 0 := by
  have h1 := hv.1; unfold HeadP at h1
  obtain ⟨a, b⟩ := mk20_at (oLo s.weeks.toNat (lvsL s L (rnsL s L))) (oHi s.weeks.toNat (lvsL s L (rnsL s L))) (w := k) (by omega)
  have hn : lvsL s L (rnsL s L) = [] ∨ s.weeks.toNat ≤ k := by rw [hno]; exact .inl rfl
  unfold outL
  rw [a, b, oLo, oHi, if_pos hn, if_pos hn]
  exact ⟨rfl, rfl⟩
/-- How wide what is told is, of all weeks together. -/
def widM (M : List Int) : Nat → Int
  | 0 => 0
  | k + 1 => widM M k + (Hi M k - Lo M k)
theorem widM_told {s : Sp} {L : List Int} (hv : SpP s) : ∀ k, k ≤ s.weeks.toNat → widM (outL s.weeks.toNat (lvsL s L (rnsL s L))) k = if rnsL s L = [] then 0 else widTo (lvsL s L (rnsL s L)) k
  | 0, _ => by simp [widM, widTo]
  | k + 1, hk => by
    have ih := widM_told (L := L) hv k (by omega)
    simp only [widM, ih]
    by_cases h : rnsL s L = []
    · obtain ⟨a, b⟩ := outL_no hv h (k := k) (by omega)
      rw [if_pos h, if_pos h, a, b]; omega
    · obtain ⟨a, b⟩ := outL_at hv h (k := k) (by omega)
      rw [if_neg h, if_neg h, a, b, widTo]
theorem wide_max {s : Sp} {L : List Int} (hv : SpP s) {m : Int} (hm : 0 ≤ m) : max m (widM (outL s.weeks.toNat (lvsL s L (rnsL s L))) s.weeks.toNat) = max m (wideP s L) := by
  rw [widM_told hv _ (Nat.le_refl _), wideP]
  by_cases h : rnsL s L = []
  · rw [if_pos h, if_pos h]; omega
  · rw [if_neg h, if_neg h]
theorem widM_bd {s : Sp} {L : List Int} (hv : SpP s) (hL : Bd L) {k : Nat} (hk : k ≤ s.weeks.toNat) : -20000 ≤ widM (outL s.weeks.toNat (lvsL s L (rnsL s L))) k ∧ widM (outL s.weeks.toNat (lvsL s L (rnsL s L))) k ≤ 20000 := by
  rw [widM_told hv k hk]
  split
  · omega
  · rename_i hne
    have h := hv.1; unfold HeadP at h
    have := widTo_bd (A := lvsL s L (rnsL s L)) (fun x hx => by
      obtain ⟨r, _, rfl⟩ := List.mem_map.1 hx
      exact hL.lv hv r) (by simp only [lvsL, List.length_map]; exact List.length_pos_iff.2 hne) k (by omega)
    omega
theorem out_bd {s : Sp} {L : List Int} (hv : SpP s) (hL : Bd L) {k : Nat} (hk : k < s.weeks.toNat) : (-1000 ≤ Lo (outL s.weeks.toNat (lvsL s L (rnsL s L))) k ∧ Lo (outL s.weeks.toNat (lvsL s L (rnsL s L))) k ≤ 1000) ∧ (-1000 ≤ Hi (outL s.weeks.toNat (lvsL s L (rnsL s L))) k ∧ Hi (outL s.weeks.toNat (lvsL s L (rnsL s L))) k ≤ 1000) := by
  have h := hv.1; unfold HeadP at h
  by_cases hne : rnsL s L = []
  · obtain ⟨a, b⟩ := outL_no hv hne hk
    rw [a, b]; omega
  · obtain ⟨a, b⟩ := outL_at hv hne hk
    rw [a, b]
    exact h_bd (A := lvsL s L (rnsL s L)) (fun x hx => by
      obtain ⟨r, _, rfl⟩ := List.mem_map.1 hx
      exact hL.lv hv r) (by simp only [lvsL, List.length_map]; exact List.length_pos_iff.2 hne) (by omega) _ (Nat.le_refl _)
/-- One week known, on both sides. -/
theorem relOne {s : Sp} (hv : SpP s) {w : Nat} (hw : w < s.weeks.toNat) {n : Int} (hn : 0 ≤ n ∧ n ≤ 100) : RelW s (set2 (flL s) w (n, n)) (oneW (baseL s) w n) := by
  have h1 := hv.1; unfold HeadP at h1
  have h := relW hv
  have hl := h.lr
  have hll := h.ll.len
  refine ⟨by simp [hl], h.ll.one (by omega), h.sb.set hl (by omega) (.inr ⟨hn.1, Int.le_refl _, hn.2⟩), fun v hvv => ?_, fun v hv10 hvw => ?_⟩
  · obtain ⟨a, b⟩ := set2_at hl (i := w) (j := v) (by omega) (by omega) (n, n)
    obtain ⟨c, d⟩ := setA_at hll (i := w) (j := v) (by omega) (by omega) n n
    unfold oneW
    rw [a, b, c, d]
    by_cases e : w = v
    · simp only [if_pos e]; exact .inl ⟨trivial, trivial⟩
    · simp only [if_neg e]; exact h.rel v hvv
  · obtain ⟨a, b⟩ := set2_at hl (i := w) (j := v) (by omega) hv10 (n, n)
    obtain ⟨c, d⟩ := setA_at hll (i := w) (j := v) (by omega) hv10 n n
    unfold oneW
    rw [a, b, c, d]
    have e : ¬w = v := by omega
    simp only [if_neg e]
    exact h.rest v hv10 hvw
theorem set2_set2 {M : List Int} {w : Nat} {p q : Int × Int} : set2 (set2 M w p) w q = set2 M w q := by
  unfold set2
  rw [List.set_comm _ _ (by omega : w * 2 + 1 ≠ w * 2), List.set_set, List.set_set]
/-- The lists of what is left: the least of all, and where it first stands. -/
def leftsL (s : Sp) (k : Nat) : List Int := (List.range k).map (leftP s)
theorem leftsL_succ (s : Sp) (k : Nat) : leftsL s (k + 1) = leftsL s k ++ [leftP s k] := by
  simp [leftsL, List.range_succ]
@[simp] theorem leftsL_len (s : Sp) (k : Nat) : (leftsL s k).length = k := by simp [leftsL]
theorem leftsL_at {s : Sp} {k i : Nat} (h : i < k) : (leftsL s k).getD i 0 = leftP s i := by simp [leftsL, h]
/-- Readings of one week: what of them is left lies between. -/
theorem fl_week {s : Sp} (hv : SpP s) {w : Nat} (hw : w < s.weeks.toNat) : (Lo (flL s) w = G (baseL s) w ∧ Hi (flL s) w = G (baseL s) (10 + w) ∧ (Lo (flL s) w ≤ Hi (flL s) w → 0 ≤ Lo (flL s) w ∧ Hi (flL s) w ≤ 100)) ∨ (Hi (flL s) w < Lo (flL s) w ∧ G (baseL s) (10 + w) < G (baseL s) w) := by
  have h1 := hv.1; unfold HeadP at h1
  have h := relW hv
  rcases h.rel w hw with ⟨a, b⟩ | ⟨a, b⟩
  · refine .inl ⟨a, b, fun hle => ?_⟩
    have := h.sb w (by omega)
    omega
  · exact .inr ⟨a, b⟩
theorem look_first {s : Sp} (hv : SpP s) : idxF (fun k => leftP s (lookI s) = (leftsL s s.weeks.toNat).getD k 0) s.weeks.toNat = (lookI s : Int) := by
  have h1 := hv.1; unfold HeadP at h1
  have hlt : lookI s < s.weeks.toNat := by
    have := amin_le (leftP s) (s.weeks.toNat - 1)
    unfold lookI; omega
  refine idxF_some (p := fun k => leftP s (lookI s) = (leftsL s s.weeks.toNat).getD k 0) hlt (by rw [leftsL_at hlt]) fun i hi e => ?_
  rw [leftsL_at (by omega)] at e
  have := amin_first (leftP s) (s.weeks.toNat - 1) i hi
  unfold lookI at e
  omega
theorem look_min {s : Sp} (hv : SpP s) : (leftsL s s.weeks.toNat).getD (amin (fun i => (leftsL s s.weeks.toNat).getD i 0) ((leftsL s s.weeks.toNat).length - 1)) 0 = leftP s (lookI s) := by
  have h1 := hv.1; unfold HeadP at h1
  rw [leftsL_len]
  have e : amin (fun i => (leftsL s s.weeks.toNat).getD i 0) (s.weeks.toNat - 1) = lookI s := amin_congr _ fun i hi => leftsL_at (by omega)
  rw [e]
  exact leftsL_at (by have := amin_le (leftP s) (s.weeks.toNat - 1); unfold lookI; omega)
end Go.S
