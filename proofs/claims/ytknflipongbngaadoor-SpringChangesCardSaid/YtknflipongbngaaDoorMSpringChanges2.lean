/- Texts of the proof, merged: Facts, K1, K2, K4, R1, R2, R3, R4, P6, P7, P8, P9, P10, P12, P14, P11, P16, P17, XF, XSi, W4, S1, S2, D5, S3, S4, XW, D6, S5, S6, S7, P18, W5, XVar, XMap, D7, D9, W6, R5, W1, P13, W2, D8, W3, D10, W7, XB, P15. -/
import Derived.Test.YtknflipongbngaaDoorMSpringChanges1
import Derived.Test.YtknflipongbngaaDoorProg
import Derived.Test.YtknflipongbngaaDoorCards
import Derived.Test.YtknflipongbngaaDoorTie
import Derived.WalkKit
import Derived.ProofKit
import Derived.LaidMore
import Derived.LaidHandle
import Derived.LaidSub
import Derived.Stop.Joined
import Derived.Deep.DeepHandedRow
/- The closed facts on the program's types and functions that the walks use. Made by a program. -/
namespace Go.Proofs.YtknflipongbngaaDoor
open Go Go.X
theorem fp_23_0 : fieldP Tryd.prog 23 0 = some 0 := by kernel_rfl
theorem fp_23_1 : fieldP Tryd.prog 23 1 = some 1 := by kernel_rfl
theorem fp_27_0 : fieldP Tryd.prog 27 0 = some 0 := by kernel_rfl
theorem fp_27_1 : fieldP Tryd.prog 27 1 = some 1 := by kernel_rfl
theorem fp_27_2 : fieldP Tryd.prog 27 2 = some 2 := by kernel_rfl
theorem fp_27_3 : fieldP Tryd.prog 27 3 = some 3 := by kernel_rfl
theorem fp_27_4 : fieldP Tryd.prog 27 4 = some 5 := by kernel_rfl
theorem fp_27_5 : fieldP Tryd.prog 27 5 = some 7 := by kernel_rfl
theorem fp_27_6 : fieldP Tryd.prog 27 6 = some 8 := by kernel_rfl
theorem fp_54_0 : fieldP Tryd.prog 54 0 = some 0 := by kernel_rfl
theorem fp_54_1 : fieldP Tryd.prog 54 1 = some 1 := by kernel_rfl
theorem fp_54_2 : fieldP Tryd.prog 54 2 = some 2 := by kernel_rfl
theorem fp_54_3 : fieldP Tryd.prog 54 3 = some 3 := by kernel_rfl
theorem fp_61_0 : fieldP Tryd.prog 61 0 = some 0 := by kernel_rfl
theorem fp_61_1 : fieldP Tryd.prog 61 1 = some 2 := by kernel_rfl
theorem fp_61_2 : fieldP Tryd.prog 61 2 = some 3 := by kernel_rfl
theorem fp_130_0 : fieldP Tryd.prog 130 0 = some 0 := by kernel_rfl
theorem ae_131 : arrE Tryd.prog 131 = some (130, 5, 1) := by kernel_rfl
theorem eq_23 : eqP Tryd.prog 5 23 = some 2 := by kernel_rfl
theorem eg_23 : Tryd.prog.eqGuardType Tryd.prog.depth 23 = false := by kernel_rfl
theorem eq_54 : eqP Tryd.prog 5 54 = some 5 := by kernel_rfl
theorem eg_54 : Tryd.prog.eqGuardType Tryd.prog.depth 54 = false := by kernel_rfl
theorem eq_61 : eqP Tryd.prog 5 61 = some 5 := by kernel_rfl
theorem eg_61 : Tryd.prog.eqGuardType Tryd.prog.depth 61 = false := by kernel_rfl
theorem sh_3 : shapeT Tryd.prog 3 = some none := by kernel_rfl
theorem sh_23 : shapeT Tryd.prog 23 = some (some 2) := by kernel_rfl
theorem sh_24 : shapeT Tryd.prog 24 = some none := by kernel_rfl
theorem sh_25 : shapeT Tryd.prog 25 = some none := by kernel_rfl
theorem sh_27 : shapeT Tryd.prog 27 = some (some 9) := by kernel_rfl
theorem sh_28 : shapeT Tryd.prog 28 = some none := by kernel_rfl
theorem sh_54 : shapeT Tryd.prog 54 = some (some 5) := by kernel_rfl
theorem sh_61 : shapeT Tryd.prog 61 = some (some 5) := by kernel_rfl
theorem sh_130 : shapeT Tryd.prog 130 = some (some 1) := by kernel_rfl
theorem sh_131 : shapeT Tryd.prog 131 = some (some 5) := by kernel_rfl
theorem sz_3 : sizeP Tryd.prog 3 = some 1 := by kernel_rfl
theorem sz_24 : sizeP Tryd.prog 24 = some 1 := by kernel_rfl
theorem sz_25 : sizeP Tryd.prog 25 = some 1 := by kernel_rfl
theorem sz_27 : sizeP Tryd.prog 27 = some 9 := by kernel_rfl
theorem sz_54 : sizeP Tryd.prog 54 = some 5 := by kernel_rfl
theorem sz_61 : sizeP Tryd.prog 61 = some 5 := by kernel_rfl
theorem sz_130 : sizeP Tryd.prog 130 = some 1 := by kernel_rfl
theorem zp_3 : zeroP Tryd.prog 3 = some [.int .i64 0] := by kernel_rfl
theorem zp_27 : zeroP Tryd.prog 27 = some [.int .i64 0, .int .i64 0, .int .i64 0, .int .i64 0, .int .i64 0, .int .i64 0, .int .i64 0, .slice none 0 0, .slice none 0 0] := by kernel_rfl
theorem zp_54 : zeroP Tryd.prog 54 = some [.int .i64 0, .int .i64 0, .int .i64 0, .int .i64 0, .int .i64 0] := by kernel_rfl
theorem zp_61 : zeroP Tryd.prog 61 = some [.int .i64 0, .int .i64 0, .int .i64 0, .int .i64 0, .int .i64 0] := by kernel_rfl
theorem zp_130 : zeroP Tryd.prog 130 = some [.nilFunc] := by kernel_rfl
theorem el_24 : elemP Tryd.prog 24 = some (none, 5) := by kernel_rfl
theorem el_25 : elemP Tryd.prog 25 = some (none, 5) := by kernel_rfl
theorem el_35 : elemP Tryd.prog 35 = some (none, 1) := by kernel_rfl
theorem el_70 : elemP Tryd.prog 70 = some (none, 9) := by kernel_rfl
theorem et_24 : elemT Tryd.prog 24 = some (61, 5) := by kernel_rfl
theorem et_25 : elemT Tryd.prog 25 = some (54, 5) := by kernel_rfl
theorem et_35 : elemT Tryd.prog 35 = some (3, 1) := by kernel_rfl
theorem et_70 : elemT Tryd.prog 70 = some (27, 9) := by kernel_rfl
theorem ap_24 : apP Tryd.prog 24 = some (61, 5, 40) := by kernel_rfl
theorem ap_25 : apP Tryd.prog 25 = some (54, 5, 40) := by kernel_rfl
theorem ap_35 : apP Tryd.prog 35 = some (3, 1, 8) := by kernel_rfl
theorem is_24 : isSliceP Tryd.prog 24 = true := by kernel_rfl
theorem is_25 : isSliceP Tryd.prog 25 = true := by kernel_rfl
theorem is_35 : isSliceP Tryd.prog 35 = true := by kernel_rfl
theorem is_70 : isSliceP Tryd.prog 70 = true := by kernel_rfl
theorem pl_27 : placesP Tryd.prog 27 = some [(0, 1), (1, 1), (2, 1), (3, 2), (5, 2), (7, 1), (8, 1)] := by kernel_rfl
theorem fn_16 : fnOk Tryd.prog 16 = true := by kernel_rfl
theorem fn_17 : fnOk Tryd.prog 17 = true := by kernel_rfl
theorem fn_26 : fnOk Tryd.prog 26 = true := by kernel_rfl
theorem fn_28 : fnOk Tryd.prog 28 = true := by kernel_rfl
theorem fn_29 : fnOk Tryd.prog 29 = true := by kernel_rfl
theorem fn_36 : fnOk Tryd.prog 36 = true := by kernel_rfl
theorem fn_37 : fnOk Tryd.prog 37 = true := by kernel_rfl
theorem fn_38 : fnOk Tryd.prog 38 = true := by kernel_rfl
theorem fn_39 : fnOk Tryd.prog 39 = true := by kernel_rfl
theorem fn_40 : fnOk Tryd.prog 40 = true := by kernel_rfl
theorem fn_41 : fnOk Tryd.prog 41 = true := by kernel_rfl
theorem fn_71 : fnOk Tryd.prog 71 = true := by kernel_rfl
theorem fn_74 : fnOk Tryd.prog 74 = true := by kernel_rfl
theorem fn_78 : fnOk Tryd.prog 78 = true := by kernel_rfl
theorem fn_80 : fnOk Tryd.prog 80 = true := by kernel_rfl
theorem fn_83 : fnOk Tryd.prog 83 = true := by kernel_rfl
theorem fn_84 : fnOk Tryd.prog 84 = true := by kernel_rfl
theorem fn_85 : fnOk Tryd.prog 85 = true := by kernel_rfl
theorem fn_89 : fnOk Tryd.prog 89 = true := by kernel_rfl
theorem fn_90 : fnOk Tryd.prog 90 = true := by kernel_rfl
theorem fn_91 : fnOk Tryd.prog 91 = true := by kernel_rfl
theorem fn_92 : fnOk Tryd.prog 92 = true := by kernel_rfl
theorem fn_93 : fnOk Tryd.prog 93 = true := by kernel_rfl
theorem fn_104 : fnOk Tryd.prog 104 = true := by kernel_rfl
theorem fn_107 : fnOk Tryd.prog 107 = true := by kernel_rfl
theorem fn_115 : fnOk Tryd.prog 115 = true := by kernel_rfl
theorem fn_119 : fnOk Tryd.prog 119 = true := by kernel_rfl
theorem fn_120 : fnOk Tryd.prog 120 = true := by kernel_rfl
theorem fn_121 : fnOk Tryd.prog 121 = true := by kernel_rfl
theorem fn_122 : fnOk Tryd.prog 122 = true := by kernel_rfl
theorem fn_123 : fnOk Tryd.prog 123 = true := by kernel_rfl
theorem fn_131 : fnOk Tryd.prog 131 = true := by kernel_rfl
theorem fn_153 : fnOk Tryd.prog 153 = true := by kernel_rfl
theorem fn_154 : fnOk Tryd.prog 154 = true := by kernel_rfl
theorem fn_155 : fnOk Tryd.prog 155 = true := by kernel_rfl
theorem fn_156 : fnOk Tryd.prog 156 = true := by kernel_rfl
theorem fn_157 : fnOk Tryd.prog 157 = true := by kernel_rfl
theorem fn_158 : fnOk Tryd.prog 158 = true := by kernel_rfl
theorem fn_159 : fnOk Tryd.prog 159 = true := by kernel_rfl
theorem fn_160 : fnOk Tryd.prog 160 = true := by kernel_rfl
end Go.Proofs.YtknflipongbngaaDoor

/- What the rows' lists and arguments give: the package's variables, springs, numbers. -/
namespace Go.Proofs.YtknflipongbngaaDoor
open Go Go.X Go.S Go.RowKit Go.ChangeShapes Go.WideShapes Go.ChangeAt
theorem ownGd : ownKnob Tryd.prog.godebug = none := by kernel_rfl
theorem laidOut : laidOutB Tryd.prog = true := by kernel_rfl
theorem gChecks : Tryd.prog.globalNamed "aguador/spring.checks" = some 0 := by kernel_rfl
theorem tChecks : (Tryd.prog.globals[0]?).map (·.type) = some 131 := by kernel_rfl
theorem cells130 : Tryd.prog.cellsOf 130 = 1 := by kernel_rfl
theorem cells131 : Tryd.prog.cellsOf 131 = 5 := by kernel_rfl
theorem cells28 : Tryd.prog.cellsOf 28 = 1 := by kernel_rfl
/-- The table of checks. -/
theorem checks_of_laid {l : List (String × DataW Unit)} {W : World} (h : laidMetH Tryd.prog l W) (hl : ("aguador/spring.checks", Rows.laid_aguador_spring_checks) ∈ l) :
    ∀ j v, chkCells[j]? = some v → W.cell? ⟨0, 0 + j, none⟩ = some v := by
  obtain ⟨g, t, cs, fuel, p, hg, ht, hv, hd⟩ := h.funcs hl
  obtain rfl := Option.some.inj (gChecks.symm.trans hg)
  obtain rfl := Option.some.inj (tChecks.symm.trans ht)
  obtain ⟨xs, m, _, hx, hlen, hxl, hel⟩ := DataW.trod_array Tryd.underlying131 hd
  rw [cells130] at hel
  rw [cells131] at hlen
  have hds : xs.map (·.1) = (List.range 5).map fun k => DataW.agg [DataW.held ([97, 103, 117, 97, 100, 111, 114, 47, 115, 112, 114, 105, 110, 103, 46, 99, 104, 101, 99, 107, 115, 36] ++ [(49 + k : Nat).toUInt8])] := by
    have := congrArg (·.1) hx
    exact DataW.agg.inj (show DataW.agg (xs.map (·.1)) = DataW.agg _ from this.symm)
  intro j v hj
  have hc := World.var?_cell hg hv j
  rw [Nat.zero_add, hc]
  have hj5 : j < 5 := (List.getElem?_eq_some_iff.1 hj).1
  have he := hel j hj5
  rw [List.getElem?_eq_getElem (by omega)] at he
  have hd1 : (xs[j]'(by omega)).1 = DataW.agg [DataW.held ([97, 103, 117, 97, 100, 111, 114, 47, 115, 112, 114, 105, 110, 103, 46, 99, 104, 101, 99, 107, 115, 36] ++ [(49 + j : Nat).toUInt8])] := by
    have := congrArg (·[j]?) hds
    simp only [List.getElem?_map, List.getElem?_eq_getElem (show j < xs.length by omega), List.getElem?_range hj5, Option.map_some, Option.some.injEq] at this
    exact this
  obtain ⟨y0, n, hy, hyl, hf⟩ := trod_struct1 Tryd.underlying130 he
  rw [hy] at hd1
  obtain ⟨d0, p0⟩ := y0
  simp only [DataW.agg.injEq, List.cons.injEq, and_true] at hd1
  subst hd1
  rw [cells130] at hyl
  rw [cells28] at hf
  have hcell : ∃ u, cs.toList[j]? = some u := ⟨cs.toList[j]'(by omega), List.getElem?_eq_getElem (by omega)⟩
  obtain ⟨u, hu⟩ := hcell
  have ecs : ((((cs.toList.drop (j * 1)).take 1).drop 0).take 1) = [u] := by
    rw [Nat.mul_one, List.drop_zero]
    obtain ⟨h1, h2⟩ := List.getElem?_eq_some_iff.1 hu
    rw [List.drop_eq_getElem_cons h1, h2]
    rfl
  rw [ecs] at hf
  have key : ∀ (j : Nat) (u : Value) (q : List MemPlace), j < 5 → DataW.trod (funcToken Tryd.prog) Tryd.prog W 0 (fun _ => true) true n 28 [u] = some (.held ([97, 103, 117, 97, 100, 111, 114, 47, 115, 112, 114, 105, 110, 103, 46, 99, 104, 101, 99, 107, 115, 36] ++ [(49 + j : Nat).toUInt8]), q) → chkCells[j]? = some u := by
    intro j u q hj h
    match j, hj with
    | 0, _ => obtain rfl := func_of_trod (f0 := 153) Tryd.underlying28 (by kernel_rfl) h; rfl
    | 1, _ => obtain rfl := func_of_trod (f0 := 154) Tryd.underlying28 (by kernel_rfl) h; rfl
    | 2, _ => obtain rfl := func_of_trod (f0 := 155) Tryd.underlying28 (by kernel_rfl) h; rfl
    | 3, _ => obtain rfl := func_of_trod (f0 := 156) Tryd.underlying28 (by kernel_rfl) h; rfl
    | 4, _ => obtain rfl := func_of_trod (f0 := 159) Tryd.underlying28 (by kernel_rfl) h; rfl
  have hk := key j u _ hj5 hf
  rw [hj] at hk
  obtain rfl := Option.some.inj hk
  simpa using hu
def i5 : List Ly := [.i .i64, .i .i64, .i .i64, .i .i64, .i .i64]
def spLay : List Ly := [.i .i64, .i .i64, .i .i64, .i .i64, .i .i64, .i .i64, .i .i64, .s i5, .s i5]
theorem lay27 : layP Tryd.prog 9 27 = some spLay := by kernel_rfl
theorem lay54 : layP Tryd.prog 9 54 = some i5 := by kernel_rfl
theorem lay61 : layP Tryd.prog 9 61 = some i5 := by kernel_rfl
theorem _root_.Go.X.FitL.un {one : Ly → Value → Prop} {y : Ly} {ys : List Ly} {vs : List Value} (h : FitL one (y :: ys) vs) : ∃ v r, vs = v :: r ∧ one y v ∧ FitL one ys r := by
  cases vs with
  | nil => exact h.elim
  | cons v r => exact ⟨v, r, rfl, h.1, h.2⟩
theorem _root_.Go.X.FitL.end_ {one : Ly → Value → Prop} {vs : List Value} (h : FitL one [] vs) : vs = [] := by
  cases vs with
  | nil => rfl
  | cons v r => exact h.elim
theorem fits5 {w : World} {n : Nat} {cs : List Value} (h : Fits w (n + 1) i5 cs) : ∃ a b c d e : Int, cs = [.int .i64 a, .int .i64 b, .int .i64 c, .int .i64 d, .int .i64 e] := by
  obtain ⟨_, r, rfl, h1, h⟩ := FitL.un h
  obtain ⟨_, r, rfl, h2, h⟩ := FitL.un h
  obtain ⟨_, r, rfl, h3, h⟩ := FitL.un h
  obtain ⟨_, r, rfl, h4, h⟩ := FitL.un h
  obtain ⟨_, r, rfl, h5, h⟩ := FitL.un h
  obtain rfl := FitL.end_ h
  obtain ⟨a, rfl, _⟩ := fit_i64 h1
  obtain ⟨b, rfl, _⟩ := fit_i64 h2
  obtain ⟨c, rfl, _⟩ := fit_i64 h3
  obtain ⟨d, rfl, _⟩ := fit_i64 h4
  obtain ⟨e, rfl, _⟩ := fit_i64 h5
  exact ⟨a, b, c, d, e, rfl⟩
/-- A slice of lines, of readings. -/
theorem rowsLn {w : World} {n : Nat} {rows : List (List Value)} (h : ∀ r ∈ rows, Fits w (n + 1) i5 r) : ∃ l : List Ln, rows = l.map Ln.cells :=
  exists_map fun r hr => by obtain ⟨a, b, c, d, e, rfl⟩ := fits5 (h r hr); exact ⟨⟨a, b, c, d, e⟩, rfl⟩
theorem rowsRd {w : World} {n : Nat} {rows : List (List Value)} (h : ∀ r ∈ rows, Fits w (n + 1) i5 r) : ∃ l : List Rd, rows = l.map Rd.cells :=
  exists_map fun r hr => by obtain ⟨a, b, c, d, e, rfl⟩ := fits5 (h r hr); exact ⟨⟨a, b, c, d, e⟩, rfl⟩
end Go.Proofs.YtknflipongbngaaDoor

/- The places of small integers. -/
namespace Go.Proofs.YtknflipongbngaaDoor
open Go Go.X Go.RowKit
end Go.Proofs.YtknflipongbngaaDoor

/- A slice of numbers, and a spring of which it is known how much room its lists have, that came in. -/
namespace Go.Proofs.YtknflipongbngaaDoor
open Go Go.X Go.S Go.RowKit
theorem lay35 : layP Tryd.prog 9 35 = some [.s [.i .i64]] := by kernel_rfl
theorem ints_of_fit {w : World} {n : Nat} {v : Value} (h : FitY w (Fits w (n + 1)) (.s [.i .i64]) v) :
    ∃ (no : Option Addr) (nc : Nat) (l : List Int), v = .slice no l.length nc ∧ RowsAt w no 1 (ones l) := by
  obtain ⟨no, len, nc, rows, rfl, _, _, e, m, f⟩ := h
  have : ∃ l : List Int, rows = ones l := by
    clear e m
    induction rows with
    | nil => exact ⟨[], rfl⟩
    | cons r rows ih =>
      obtain ⟨l, hl⟩ := ih fun q hq => f q (List.mem_cons_of_mem _ hq)
      obtain ⟨v, r', hr, h1, h2⟩ := FitL.un (f r (List.mem_cons_self ..))
      obtain rfl := FitL.end_ h2
      obtain ⟨x, rfl, _⟩ := fit_i64 h1
      exact ⟨x :: l, by rw [hl, hr]; rfl⟩
  obtain ⟨l, rfl⟩ := this
  rw [length_ones] at e
  subst e
  exact ⟨no, nc, l, rfl, m⟩
theorem sp_of_fits2 {w : World} {cs : List Value} (h : Fits w 10 spLay cs) : ∃ s bo ro bc rc, cs = sp9 s bo ro bc rc ∧ SpAt w s bo ro ∧ s.reads.length ≤ rc := by
  obtain ⟨_, r, rfl, h1, h⟩ := FitL.un h
  obtain ⟨_, r, rfl, h2, h⟩ := FitL.un h
  obtain ⟨_, r, rfl, h3, h⟩ := FitL.un h
  obtain ⟨_, r, rfl, h4, h⟩ := FitL.un h
  obtain ⟨_, r, rfl, h5, h⟩ := FitL.un h
  obtain ⟨_, r, rfl, h6, h⟩ := FitL.un h
  obtain ⟨_, r, rfl, h7, h⟩ := FitL.un h
  obtain ⟨_, r, rfl, h8, h⟩ := FitL.un h
  obtain ⟨_, r, rfl, h9, h⟩ := FitL.un h
  obtain rfl := FitL.end_ h
  obtain ⟨a1, rfl, _⟩ := fit_i64 h1
  obtain ⟨a2, rfl, _⟩ := fit_i64 h2
  obtain ⟨a3, rfl, _⟩ := fit_i64 h3
  obtain ⟨a4, rfl, _⟩ := fit_i64 h4
  obtain ⟨a5, rfl, _⟩ := fit_i64 h5
  obtain ⟨a6, rfl, _⟩ := fit_i64 h6
  obtain ⟨a7, rfl, _⟩ := fit_i64 h7
  obtain ⟨bo, n1, c1, rows1, rfl, _, _, e1, m1, f1⟩ := h8
  obtain ⟨ro, n2, c2, rows2, rfl, hc, _, e2, m2, f2⟩ := h9
  obtain ⟨l1, rfl⟩ := rowsLn f1
  obtain ⟨l2, rfl⟩ := rowsRd f2
  rw [List.length_map] at e1 e2
  subst e1 e2
  exact ⟨⟨a1, a2, a3, a4, a5, a6, a7, l1, l2⟩, bo, ro, c1, c2, rfl, ⟨m1, m2⟩, hc⟩
end Go.Proofs.YtknflipongbngaaDoor

/- The walks of functions. -/
namespace Go.Proofs.YtknflipongbngaaDoor
open Go.X Go.S
theorem within_any (n lo hi : Int) (w : World) :
    CallsR Tryd.prog 104 [.int .i64 n, .int .i64 lo, .int .i64 hi] w (fun v _ => v = .bool (decide (Wi n lo hi))) := by
  refine CallsR.of_SX (n := 15) (rs := [.tmp 6]) Tryd.func104 rfl rfl rfl rfl ?_
  show SX _ _ _ ⟨[(0, .int .i64 n), (1, .int .i64 lo), (2, .int .i64 hi)], [], []⟩
  refine SX.seq ?_
  refine SX.region ?_
  refine SXL.assign rfl ?_
  refine SXL.nil ?_
  refine thenQ.normal ?_
  refine SX.seq ?_
  refine SX.region ?_
  refine SXL.move rfl ?_
  refine SXL.move rfl ?_
  refine SXL.geq rfl rfl ?_
  refine SXL.move rfl ?_
  apply SXL.andG 3
  case hl => exact rfl
  case hd => exact rfl
  case hg => exact rfl
  case ht =>
    intro g1
    refine SXL.move rfl ?_
    refine SXL.move rfl ?_
    refine SXL.leq rfl rfl ?_
    exact SXL.nil (segQ.mk (.skip rfl (.skip rfl (.skip rfl (.skip rfl (EnvSub.refl _))))) rfl rfl ⟨rfl, rfl⟩)
  case hf =>
    intro g1
    refine SXL.pass rfl rfl rfl ?_
    refine SXL.pass rfl rfl rfl ?_
    refine SXL.pass rfl rfl rfl ?_
    exact SXL.nil (segQ.mk (.skip rfl (.skip rfl (.skip rfl (.skip rfl (EnvSub.refl _))))) rfl rfl rfl)
  refine SXL.assign rfl ?_
  refine SXL.nil ?_
  refine thenQ.normal ?_
  refine SX.ret ?_
  refine retQ.one (ResAt.tmp rfl) ?_
  first | rfl | assumption
theorem spanned_any (a b lo hi : Int) (w : World) :
    CallsR Tryd.prog 115 [.agg ⟨[.int .i64 a, .int .i64 b]⟩, .int .i64 lo, .int .i64 hi] w (fun v _ => v = .bool (decide (Spn a b lo hi))) := by
  refine CallsR.of_SX (n := 20) (rs := [.tmp 6]) Tryd.func115 rfl rfl rfl rfl ?_
  show SX _ _ _ ⟨[(0, .agg ⟨[.int .i64 a, .int .i64 b]⟩), (1, .int .i64 lo), (2, .int .i64 hi)], [], []⟩
  refine SX.seq ?_
  refine SX.region ?_
  refine SXL.box rfl rfl ?_; intro b0
  refine SXL.assign rfl ?_
  refine SXL.nil ?_
  refine thenQ.normal ?_
  refine SX.seq ?_
  refine SX.region ?_
  refine SXL.fieldAddr fp_23_1 rfl ?_
  refine SXL.load1o 0 sh_3 rfl rfl rfl ?_
  refine SXL.move rfl ?_
  refine SXL.move rfl ?_
  refine SXL.call1 (.bool (decide (Wi b lo hi))) fn_104 rfl (fun w hI => within_any _ _ _ _) ?_
  refine SXL.move rfl ?_
  apply SXL.andG 6
  case hl => exact rfl
  case hd => exact rfl
  case hg => exact rfl
  case ht =>
    intro g1
    refine SXL.fieldAddr fp_23_0 rfl ?_
    refine SXL.load1o 0 sh_3 rfl rfl rfl ?_
    refine SXL.move rfl ?_
    refine SXL.fieldAddr fp_23_1 rfl ?_
    refine SXL.load1o 0 sh_3 rfl rfl rfl ?_
    refine SXL.call1 (.bool (decide (Wi a lo b))) fn_104 rfl (fun w hI => within_any _ _ _ _) ?_
    exact SXL.nil (segQ.mk (.skip rfl (.skip rfl (.skip rfl (.skip rfl (.skip rfl (.skip rfl (.skip rfl (EnvSub.refl _)))))))) rfl rfl ⟨rfl, rfl⟩)
  case hf =>
    intro g1
    refine SXL.pass rfl rfl rfl ?_
    refine SXL.pass rfl rfl rfl ?_
    refine SXL.pass rfl rfl rfl ?_
    refine SXL.pass rfl rfl rfl ?_
    refine SXL.pass rfl rfl rfl ?_
    refine SXL.pass rfl rfl rfl ?_
    exact SXL.nil (segQ.mk (.skip rfl (.skip rfl (.skip rfl (.skip rfl (.skip rfl (.skip rfl (.skip rfl (EnvSub.refl _)))))))) rfl rfl rfl)
  refine SXL.assign rfl ?_
  refine SXL.nil ?_
  refine thenQ.normal ?_
  refine SX.ret ?_
  refine retQ.one (ResAt.tmp rfl) ?_
  first | rfl | assumption
theorem reading_any (x : Rd) (weeks : Int) (hw : -9223372036854775807 ≤ weeks) (hw2 : weeks ≤ 9223372036854775807) (w : World) :
    CallsR Tryd.prog 71 [.agg ⟨x.cells⟩, .int .i64 weeks] w (fun v _ => v = .bool (decide (RdP x weeks))) := by
  refine CallsR.of_SX (n := 31) (rs := [.tmp 4]) Tryd.func71 rfl rfl rfl rfl ?_
  show SX _ _ _ ⟨[(0, .agg ⟨x.cells⟩), (1, .int .i64 weeks)], [], []⟩
  refine SX.seq ?_
  refine SX.region ?_
  refine SXL.box rfl rfl ?_; intro b0
  refine SXL.assign rfl ?_
  refine SXL.nil ?_
  refine thenQ.normal ?_
  refine SX.seq ?_
  refine SX.region ?_
  refine SXL.fieldAddr fp_54_0 rfl ?_
  refine SXL.load1o 0 sh_3 rfl rfl rfl ?_
  refine SXL.call1 (.bool (decide (Wi x.num 1 9999))) fn_104 rfl (fun w hI => within_any _ _ _ _) ?_
  refine SXL.move rfl ?_
  apply SXL.andG 5
  case hl => exact rfl
  case hd => exact rfl
  case hg => exact rfl
  case ht =>
    intro g1
    refine SXL.fieldAddr fp_54_1 rfl ?_
    refine SXL.load1o 0 sh_3 rfl rfl rfl ?_
    refine SXL.move rfl ?_
    refine SXL.sub rfl rfl (by omega) ?_
    refine SXL.call1 (.bool (decide (Wi x.wk 0 (weeks - 1)))) fn_104 rfl (fun w hI => within_any _ _ _ _) ?_
    exact SXL.nil (segQ.mk (.skip rfl (.skip rfl (.skip rfl (.skip rfl (.skip rfl (.skip rfl (EnvSub.refl _))))))) rfl rfl ⟨rfl, rfl⟩)
  case hf =>
    intro g1
    refine SXL.pass rfl rfl rfl ?_
    refine SXL.pass rfl rfl rfl ?_
    refine SXL.pass rfl rfl rfl ?_
    refine SXL.pass rfl rfl rfl ?_
    refine SXL.pass rfl rfl rfl ?_
    exact SXL.nil (segQ.mk (.skip rfl (.skip rfl (.skip rfl (.skip rfl (.skip rfl (.skip rfl (EnvSub.refl _))))))) rfl rfl rfl)
  refine SXL.move rfl ?_
  apply SXL.andG 3
  case hl => exact rfl
  case hd => exact rfl
  case hg => exact rfl
  case ht =>
    intro g2
    refine SXL.fieldAddr fp_54_2 rfl ?_
    refine SXL.load1o 0 sh_3 rfl rfl rfl ?_
    refine SXL.call1 (.bool (decide (Wi x.bu 1 40))) fn_104 rfl (fun w hI => within_any _ _ _ _) ?_
    exact SXL.nil (segQ.mk (.skip rfl (.skip rfl (.skip rfl (.skip rfl (EnvSub.refl _))))) rfl rfl ⟨rfl, rfl⟩)
  case hf =>
    intro g2
    refine SXL.pass rfl rfl rfl ?_
    refine SXL.pass rfl rfl rfl ?_
    refine SXL.pass rfl rfl rfl ?_
    exact SXL.nil (segQ.mk (.skip rfl (.skip rfl (.skip rfl (.skip rfl (EnvSub.refl _))))) rfl rfl rfl)
  refine SXL.move rfl ?_
  apply SXL.andG 3
  case hl => exact rfl
  case hd => exact rfl
  case hg => exact rfl
  case ht =>
    intro g3
    refine SXL.fieldAddr fp_54_3 rfl ?_
    refine SXL.loadNo 0 sh_23 rfl rfl rfl ?_
    refine SXL.call1 (.bool (decide (Spn x.s0 x.s1 0 99))) fn_115 rfl (fun w hI => spanned_any _ _ _ _ _) ?_
    exact SXL.nil (segQ.mk (.skip rfl (.skip rfl (.skip rfl (.skip rfl (EnvSub.refl _))))) rfl rfl ⟨rfl, rfl⟩)
  case hf =>
    intro g3
    refine SXL.pass rfl rfl rfl ?_
    refine SXL.pass rfl rfl rfl ?_
    refine SXL.pass rfl rfl rfl ?_
    exact SXL.nil (segQ.mk (.skip rfl (.skip rfl (.skip rfl (.skip rfl (EnvSub.refl _))))) rfl rfl rfl)
  refine SXL.move rfl ?_
  apply SXL.andG 4
  case hl => exact rfl
  case hd => exact rfl
  case hg => exact rfl
  case ht =>
    intro g4
    refine SXL.fieldAddr fp_54_3 rfl ?_
    refine SXL.fieldAddr fp_23_1 rfl ?_
    refine SXL.load1o 0 sh_3 rfl rfl rfl ?_
    refine SXL.gtr rfl rfl ?_
    exact SXL.nil (segQ.mk (.skip rfl (.skip rfl (.skip rfl (.skip rfl (.skip rfl (EnvSub.refl _)))))) rfl rfl ⟨rfl, rfl⟩)
  case hf =>
    intro g4
    refine SXL.pass rfl rfl rfl ?_
    refine SXL.pass rfl rfl rfl ?_
    refine SXL.pass rfl rfl rfl ?_
    refine SXL.pass rfl rfl rfl ?_
    exact SXL.nil (segQ.mk (.skip rfl (.skip rfl (.skip rfl (.skip rfl (.skip rfl (EnvSub.refl _)))))) rfl rfl rfl)
  refine SXL.assign rfl ?_
  refine SXL.nil ?_
  refine thenQ.normal ?_
  refine SX.ret ?_
  refine retQ.one (ResAt.tmp rfl) ?_
  first | rfl | assumption
theorem spring_any (s : Sp) (bo ro : Option Addr) (bc rc : Nat) (w : World) (hs : SpAt w s bo ro) :
    CallsR Tryd.prog 74 [.agg ⟨[.int .i64 s.weeks, .int .i64 s.most, .int .i64 s.fall, .int .i64 s.a0, .int .i64 s.a1, .int .i64 s.w0, .int .i64 s.w1, (.slice bo s.book.length bc), (.slice ro s.reads.length rc)]⟩] w (fun v _ => v = .bool (decide (SpP s))) := by
  refine CallsR.of_SX (n := 104) (rs := [.tmp 2]) Tryd.func74 rfl rfl rfl rfl ?_
  show SX _ _ _ ⟨[(0, .agg ⟨[.int .i64 s.weeks, .int .i64 s.most, .int .i64 s.fall, .int .i64 s.a0, .int .i64 s.a1, .int .i64 s.w0, .int .i64 s.w1, (.slice bo s.book.length bc), (.slice ro s.reads.length rc)]⟩)], [], []⟩
  refine SX.seq ?_
  refine SX.region ?_
  refine SXL.box rfl rfl ?_; intro b0
  refine SXL.assign rfl ?_
  refine SXL.nil ?_
  refine thenQ.normal ?_
  refine SX.seq ?_
  refine SX.seq ?_
  refine SX.region ?_
  refine SXL.fieldAddr fp_27_0 rfl ?_
  refine SXL.load1o 0 sh_3 rfl rfl rfl ?_
  refine SXL.call1 (.bool (decide (Wi s.weeks 1 10))) fn_104 rfl (fun w hI => within_any _ _ _ _) ?_
  refine SXL.not rfl ?_
  refine SXL.move rfl ?_
  apply SXL.orG 4
  case hl => exact rfl
  case hd => exact rfl
  case hg => exact rfl
  case ht =>
    intro g1
    refine SXL.pass rfl rfl rfl ?_
    refine SXL.pass rfl rfl rfl ?_
    refine SXL.pass rfl rfl rfl ?_
    refine SXL.pass rfl rfl rfl ?_
    exact SXL.nil (segQ.mk (.skip rfl (.skip rfl (.skip rfl (.skip rfl (.skip rfl (EnvSub.refl _)))))) rfl rfl rfl)
  case hf =>
    intro g1
    refine SXL.fieldAddr fp_27_1 rfl ?_
    refine SXL.load1o 0 sh_3 rfl rfl rfl ?_
    refine SXL.call1 (.bool (decide (Wi s.most 0 100))) fn_104 rfl (fun w hI => within_any _ _ _ _) ?_
    refine SXL.not rfl ?_
    exact SXL.nil (segQ.mk (.skip rfl (.skip rfl (.skip rfl (.skip rfl (.skip rfl (EnvSub.refl _)))))) rfl rfl ⟨rfl, rfl⟩)
  refine SXL.move rfl ?_
  apply SXL.orG 4
  case hl => exact rfl
  case hd => exact rfl
  case hg => exact rfl
  case ht =>
    intro g2
    refine SXL.pass rfl rfl rfl ?_
    refine SXL.pass rfl rfl rfl ?_
    refine SXL.pass rfl rfl rfl ?_
    refine SXL.pass rfl rfl rfl ?_
    exact SXL.nil (segQ.mk (.skip rfl (.skip rfl (.skip rfl (.skip rfl (.skip rfl (EnvSub.refl _)))))) rfl rfl rfl)
  case hf =>
    intro g2
    refine SXL.fieldAddr fp_27_2 rfl ?_
    refine SXL.load1o 0 sh_3 rfl rfl rfl ?_
    refine SXL.call1 (.bool (decide (Wi s.fall 0 100))) fn_104 rfl (fun w hI => within_any _ _ _ _) ?_
    refine SXL.not rfl ?_
    exact SXL.nil (segQ.mk (.skip rfl (.skip rfl (.skip rfl (.skip rfl (.skip rfl (EnvSub.refl _)))))) rfl rfl ⟨rfl, rfl⟩)
  refine SXL.move rfl ?_
  apply SXL.orG 4
  case hl => exact rfl
  case hd => exact rfl
  case hg => exact rfl
  case ht =>
    intro g3
    refine SXL.pass rfl rfl rfl ?_
    refine SXL.pass rfl rfl rfl ?_
    refine SXL.pass rfl rfl rfl ?_
    refine SXL.pass rfl rfl rfl ?_
    exact SXL.nil (segQ.mk (.skip rfl (.skip rfl (.skip rfl (.skip rfl (.skip rfl (EnvSub.refl _)))))) rfl rfl rfl)
  case hf =>
    intro g3
    refine SXL.fieldAddr fp_27_3 rfl ?_
    refine SXL.loadNo 0 sh_23 rfl rfl rfl ?_
    refine SXL.call1 (.bool (decide (Spn s.a0 s.a1 1 600))) fn_115 rfl (fun w hI => spanned_any _ _ _ _ _) ?_
    refine SXL.not rfl ?_
    exact SXL.nil (segQ.mk (.skip rfl (.skip rfl (.skip rfl (.skip rfl (.skip rfl (EnvSub.refl _)))))) rfl rfl ⟨rfl, rfl⟩)
  refine SXL.move rfl ?_
  apply SXL.orG 4
  case hl => exact rfl
  case hd => exact rfl
  case hg => exact rfl
  case ht =>
    intro g4
    refine SXL.pass rfl rfl rfl ?_
    refine SXL.pass rfl rfl rfl ?_
    refine SXL.pass rfl rfl rfl ?_
    refine SXL.pass rfl rfl rfl ?_
    exact SXL.nil (segQ.mk (.skip rfl (.skip rfl (.skip rfl (.skip rfl (.skip rfl (EnvSub.refl _)))))) rfl rfl rfl)
  case hf =>
    intro g4
    refine SXL.fieldAddr fp_27_4 rfl ?_
    refine SXL.loadNo 0 sh_23 rfl rfl rfl ?_
    refine SXL.call1 (.bool (decide (Spn s.w0 s.w1 0 20))) fn_115 rfl (fun w hI => spanned_any _ _ _ _ _) ?_
    refine SXL.not rfl ?_
    exact SXL.nil (segQ.mk (.skip rfl (.skip rfl (.skip rfl (.skip rfl (.skip rfl (EnvSub.refl _)))))) rfl rfl ⟨rfl, rfl⟩)
  refine SXL.move rfl ?_
  apply SXL.orG 4
  case hl => exact rfl
  case hd => exact rfl
  case hg => exact rfl
  case ht =>
    intro g5
    refine SXL.pass rfl rfl rfl ?_
    refine SXL.pass rfl rfl rfl ?_
    refine SXL.pass rfl rfl rfl ?_
    refine SXL.pass rfl rfl rfl ?_
    exact SXL.nil (segQ.mk (.skip rfl (.skip rfl (.skip rfl (.skip rfl (.skip rfl (EnvSub.refl _)))))) rfl rfl rfl)
  case hf =>
    intro g5
    refine SXL.fieldAddr fp_27_5 rfl ?_
    refine SXL.load1o 0 sh_24 rfl rfl rfl ?_
    refine SXL.len is_24 rfl ?_
    refine SXL.gtr rfl rfl ?_
    exact SXL.nil (segQ.mk (.skip rfl (.skip rfl (.skip rfl (.skip rfl (.skip rfl (EnvSub.refl _)))))) rfl rfl ⟨rfl, rfl⟩)
  refine SXL.move rfl ?_
  apply SXL.orG 4
  case hl => exact rfl
  case hd => exact rfl
  case hg => exact rfl
  case ht =>
    intro c0
    refine SXL.pass rfl rfl rfl ?_
    refine SXL.pass rfl rfl rfl ?_
    refine SXL.pass rfl rfl rfl ?_
    refine SXL.pass rfl rfl rfl ?_
    exact SXL.nil (segQ.mk (.skip rfl (.skip rfl (.skip rfl (.skip rfl (.skip rfl (EnvSub.refl _)))))) rfl rfl rfl)
  case hf =>
    intro c0
    refine SXL.fieldAddr fp_27_6 rfl ?_
    refine SXL.load1o 0 sh_25 rfl rfl rfl ?_
    refine SXL.len is_25 rfl ?_
    refine SXL.gtr rfl rfl ?_
    exact SXL.nil (segQ.mk (.skip rfl (.skip rfl (.skip rfl (.skip rfl (.skip rfl (EnvSub.refl _)))))) rfl rfl ⟨rfl, rfl⟩)
  refine SXL.nil ?_
  refine thenQ.normal ?_
  refine SX.condP rfl (fun c0 => ?_) (fun c0 => ?_)
  · refine SX.seq ?_
    refine SX.region ?_
    refine SXL.assign rfl ?_
    refine SXL.nil ?_
    refine thenQ.normal ?_
    refine SX.ret ?_
    refine thenQ.ret ?_
    refine retQ.one (ResAt.tmp rfl) ?_
    exact congrArg Value.bool (decide_eq_false (by intro h; have h1 := h.1; unfold HeadP at h1; omega)).symm
  · refine SX.skip ?_
    refine thenQ.normal ?_
    refine SX.seq ?_
    refine SX.seq ?_
    refine SX.region ?_
    refine SXL.fieldAddr fp_27_5 rfl ?_
    refine SXL.load1o 0 sh_24 rfl rfl rfl ?_
    refine SXL.len is_24 rfl ?_
    refine SXL.move rfl ?_
    refine SXL.nil ?_
    refine thenQ.normal ?_
    refine SX.block ?_
    refine SX.loopG (α := Nat) [1, 2, 48, 49] rfl (fun k => [(50, .int .i64 (k : Int))]) (fun k => []) (fun k => k ≤ s.book.length ∧ ∀ i, i < k → (h : i < s.book.length) → LnP s.book[i] s.weeks) (fun k => s.book.length - k) 0 ⟨Nat.zero_le _, fun _ h => absurd h (Nat.not_lt_zero _)⟩ ⟨rfl, trivial⟩ rfl ?_
    rintro k ⟨hkl, hall⟩
    refine SX.seq ?_
    refine SX.region ?_
    refine SXL.lss rfl rfl ?_
    refine SXL.nil ?_
    refine thenQ.normal ?_
    refine SX.seq ?_
    refine SX.condP rfl (fun c1 => ?_) (fun c1 => ?_)
    · refine SX.skip ?_
      refine thenQ.normal ?_
      refine SX.seq ?_
      refine SX.block ?_
      refine SX.seq ?_
      have hk : k < s.book.length := by omega
      obtain ⟨b, o, ha, hm⟩ := hs.line hk
      refine SX.region ?_
      refine SXL.indexR el_24 rfl rfl ha (by omega) ?_
      refine SXL.loadN sh_61 rfl (hm _) rfl ?_
      refine SXL.alloc zp_61 ?_; intro b1
      refine SXL.store 1 sz_61 rfl rfl rfl rfl rfl rfl ?_
      refine SXL.nil ?_
      refine thenQ.normal ?_
      refine SX.seq ?_
      refine SX.region ?_
      refine SXL.fieldAddr fp_61_0 rfl ?_
      refine SXL.loadNo 1 sh_23 rfl rfl rfl ?_
      refine SXL.call1 (.bool (decide (Spn s.book[k].r0 s.book[k].r1 0 20))) fn_115 rfl (fun w hI => spanned_any _ _ _ _ _) ?_
      refine SXL.not rfl ?_
      refine SXL.move rfl ?_
      apply SXL.orG 7
      case hl => exact rfl
      case hd => exact rfl
      case hg => exact rfl
      case ht =>
        intro g9
        refine SXL.pass rfl rfl rfl ?_
        refine SXL.pass rfl rfl rfl ?_
        refine SXL.pass rfl rfl rfl ?_
        refine SXL.pass rfl rfl rfl ?_
        refine SXL.pass rfl rfl rfl ?_
        refine SXL.pass rfl rfl rfl ?_
        refine SXL.pass rfl rfl rfl ?_
        exact SXL.nil (segQ.mk (.skip rfl (.skip rfl (.skip rfl (.skip rfl (.skip rfl (.skip rfl (.skip rfl (.skip rfl (EnvSub.refl _))))))))) rfl rfl rfl)
      case hf =>
        intro g9
        refine SXL.fieldAddr fp_61_1 rfl ?_
        refine SXL.load1o 1 sh_3 rfl rfl rfl ?_
        refine SXL.fieldAddr fp_27_0 rfl ?_
        refine SXL.load1o 0 sh_3 rfl rfl rfl ?_
        refine SXL.sub rfl rfl (by omega) ?_
        refine SXL.call1 (.bool (decide (Wi s.book[k].wk 0 (s.weeks - 1)))) fn_104 rfl (fun w hI => within_any _ _ _ _) ?_
        refine SXL.not rfl ?_
        exact SXL.nil (segQ.mk (.skip rfl (.skip rfl (.skip rfl (.skip rfl (.skip rfl (.skip rfl (.skip rfl (.skip rfl (EnvSub.refl _))))))))) rfl rfl ⟨rfl, rfl⟩)
      refine SXL.move rfl ?_
      apply SXL.orG 4
      case hl => exact rfl
      case hd => exact rfl
      case hg => exact rfl
      case ht =>
        intro c2
        refine SXL.pass rfl rfl rfl ?_
        refine SXL.pass rfl rfl rfl ?_
        refine SXL.pass rfl rfl rfl ?_
        refine SXL.pass rfl rfl rfl ?_
        exact SXL.nil (segQ.mk (.skip rfl (.skip rfl (.skip rfl (.skip rfl (.skip rfl (EnvSub.refl _)))))) rfl rfl rfl)
      case hf =>
        intro c2
        refine SXL.fieldAddr fp_61_2 rfl ?_
        refine SXL.loadNo 1 sh_23 rfl rfl rfl ?_
        refine SXL.call1 (.bool (decide (Spn s.book[k].g0 s.book[k].g1 0 100))) fn_115 rfl (fun w hI => spanned_any _ _ _ _ _) ?_
        refine SXL.not rfl ?_
        exact SXL.nil (segQ.mk (.skip rfl (.skip rfl (.skip rfl (.skip rfl (.skip rfl (EnvSub.refl _)))))) rfl rfl ⟨rfl, rfl⟩)
      refine SXL.nil ?_
      refine thenQ.normal ?_
      refine SX.condP rfl (fun c2 => ?_) (fun c2 => ?_)
      · refine SX.seq ?_
        refine SX.region ?_
        refine SXL.assign rfl ?_
        refine SXL.nil ?_
        refine thenQ.normal ?_
        refine SX.ret ?_
        refine blockQ.ret ?_
        refine thenQ.ret ?_
        refine thenQ.ret ?_
        refine blockQ.ret ?_
        refine thenQ.ret ?_
        refine retQ.one (ResAt.tmp rfl) ?_
        exact congrArg Value.bool (decide_eq_false (by intro h; have h1 := h.2.1 k hk; omega)).symm
      · refine SX.skip ?_
        refine blockQ.normal ?_
        refine thenQ.normal ?_
        refine SX.region ?_
        refine SXL.add rfl rfl (by omega) ?_
        refine SXL.move rfl ?_
        refine SXL.nil ?_
        refine thenQ.normal ?_
        refine ⟨k + 1, Meets.mk _ ⟨rfl, trivial⟩ ⟨rfl, rfl, rfl, rfl, trivial⟩ rfl, ?_, by omega⟩
        refine ⟨by omega, fun i hi h => ?_⟩
        by_cases hik : i = k
        · subst hik; omega
        · exact hall i (by omega) h
    · refine SX.exit ?_
      refine thenQ.exit ?_
      refine thenQ.exit ?_
      refine blockQ.exit ?_
      refine thenQ.normal ?_
      refine SX.seq ?_
      refine SX.seq ?_
      refine SX.region ?_
      refine SXL.fieldAddr fp_27_6 rfl ?_
      refine SXL.load1o 0 sh_25 rfl rfl rfl ?_
      refine SXL.len is_25 rfl ?_
      refine SXL.move rfl ?_
      refine SXL.nil ?_
      refine thenQ.normal ?_
      refine SX.block ?_
      refine SX.loopG (α := Nat) [1, 2, 75, 76] rfl (fun k => [(77, .int .i64 (k : Int))]) (fun k => []) (fun k => k ≤ s.reads.length ∧ ∀ i, i < k → (h : i < s.reads.length) → RdP s.reads[i] s.weeks ∧ (0 < i → (s.reads.getD (i - 1) default).num < s.reads[i].num)) (fun k => s.reads.length - k) 0 ⟨Nat.zero_le _, fun _ h => absurd h (Nat.not_lt_zero _)⟩ ⟨rfl, trivial⟩ rfl ?_
      rintro k ⟨hkl2, hall2⟩
      refine SX.seq ?_
      refine SX.region ?_
      refine SXL.lss rfl rfl ?_
      refine SXL.nil ?_
      refine thenQ.normal ?_
      refine SX.seq ?_
      refine SX.condP rfl (fun c3 => ?_) (fun c3 => ?_)
      · refine SX.skip ?_
        refine thenQ.normal ?_
        refine SX.seq ?_
        refine SX.block ?_
        refine SX.seq ?_
        have hk : k < s.reads.length := by omega
        obtain ⟨b, o, ha, hm⟩ := hs.read hk
        refine SX.region ?_
        refine SXL.move rfl ?_
        refine SXL.indexR el_25 rfl rfl ha (by omega) ?_
        refine SXL.loadN sh_54 rfl (hm _) rfl ?_
        refine SXL.alloc zp_54 ?_; intro b1
        refine SXL.assign rfl ?_
        refine SXL.store 1 sz_54 rfl rfl rfl rfl rfl rfl ?_
        refine SXL.nil ?_
        refine thenQ.normal ?_
        refine SX.seq ?_
        refine SX.draw 21 (by kernel_rfl) (by kernel_rfl) {} ?_
        refine SXA.take 0 21 rfl (by kernel_rfl) rfl ?_
        refine SXL.loadNo 1 sh_54 rfl rfl rfl ?_
        refine SXL.fieldAddr fp_27_0 rfl ?_
        refine SXL.load1o 0 sh_3 rfl rfl rfl ?_
        refine SXL.call1 (.bool (decide (RdP s.reads[k] s.weeks))) fn_71 rfl (fun w hI => reading_any _ _ (by omega) (by omega) _) ?_
        refine SXL.not rfl ?_
        refine SXL.move rfl ?_
        apply SXL.orG 14
        case hl => exact rfl
        case hd => exact rfl
        case hg => exact rfl
        case ht =>
          intro c4
          refine SXL.pass rfl rfl rfl ?_
          refine SXL.pass rfl rfl rfl ?_
          refine SXL.pass rfl rfl rfl ?_
          refine SXL.pass rfl rfl rfl ?_
          refine SXL.pass rfl rfl rfl ?_
          refine SXL.pass rfl rfl rfl ?_
          refine SXL.pass rfl rfl rfl ?_
          refine SXL.pass rfl rfl rfl ?_
          refine SXL.pass rfl rfl rfl ?_
          refine SXL.pass rfl rfl rfl ?_
          refine SXL.pass rfl rfl rfl ?_
          refine SXL.pass rfl rfl rfl ?_
          refine SXL.pass rfl rfl rfl ?_
          refine SXL.pass rfl rfl rfl ?_
          exact SXL.nil (segQ.mk (.skip rfl (.skip rfl (.skip rfl (.skip rfl (.skip rfl (.skip rfl (.skip rfl (.skip rfl (.skip rfl (.skip rfl (.skip rfl (.skip rfl (.skip rfl (.skip rfl (.skip rfl (EnvSub.refl _)))))))))))))))) rfl rfl rfl)
        case hf =>
          intro c4
          refine SXL.move rfl ?_
          refine SXL.gtr rfl rfl ?_
          refine SXL.move rfl ?_
          apply SXL.andG 10
          case hl => exact rfl
          case hd => exact rfl
          case hg => exact rfl
          case ht =>
            intro g14
            obtain ⟨b2, o2, ha2, hm2⟩ := hs.readI (i := (k : Int) - 1) (by omega) (by omega)
            refine SXL.fieldAddr fp_27_6 rfl ?_
            refine SXL.load1o 0 sh_25 rfl rfl rfl ?_
            refine SXL.move rfl ?_
            refine SXL.sub rfl rfl (by omega) ?_
            refine SXL.indexR el_25 rfl rfl ha2 (by omega) ?_
            refine SXL.fieldAddr fp_54_0 rfl ?_
            refine SXL.load1 sh_3 rfl ((hm2 _).sub (j := 0) (k := 1) rfl) ?_
            refine SXL.fieldAddr fp_54_0 rfl ?_
            refine SXL.load1o 1 sh_3 rfl rfl rfl ?_
            refine SXL.geq rfl rfl ?_
            exact SXL.nil (segQ.mk (.skip rfl (.skip rfl (.skip rfl (.skip rfl (.skip rfl (.skip rfl (.skip rfl (.skip rfl (.skip rfl (.skip rfl (.skip rfl (EnvSub.refl _)))))))))))) rfl rfl ⟨rfl, rfl⟩)
          case hf =>
            intro g14
            refine SXL.pass rfl rfl rfl ?_
            refine SXL.pass rfl rfl rfl ?_
            refine SXL.pass rfl rfl rfl ?_
            refine SXL.pass rfl rfl rfl ?_
            refine SXL.pass rfl rfl rfl ?_
            refine SXL.pass rfl rfl rfl ?_
            refine SXL.pass rfl rfl rfl ?_
            refine SXL.pass rfl rfl rfl ?_
            refine SXL.pass rfl rfl rfl ?_
            refine SXL.pass rfl rfl rfl ?_
            exact SXL.nil (segQ.mk (.skip rfl (.skip rfl (.skip rfl (.skip rfl (.skip rfl (.skip rfl (.skip rfl (.skip rfl (.skip rfl (.skip rfl (.skip rfl (EnvSub.refl _)))))))))))) rfl rfl rfl)
          exact SXL.nil (segQ.mk (.skip rfl (.skip rfl (.skip rfl (.skip rfl (EnvSub.refl _))))) rfl rfl ⟨rfl, rfl⟩)
        refine SXL.nil ⟨rfl, rfl, rfl, ?_⟩
        refine SXA.done (by kernel_rfl) ?_
        refine SXL.nil ?_
        refine thenQ.normal ?_
        refine SX.condP rfl (fun c4 => ?_) (fun c4 => ?_)
        · refine SX.seq ?_
          refine SX.region ?_
          refine SXL.assign rfl ?_
          refine SXL.nil ?_
          refine thenQ.normal ?_
          refine SX.ret ?_
          refine blockQ.ret ?_
          refine thenQ.ret ?_
          refine thenQ.ret ?_
          refine blockQ.ret ?_
          refine thenQ.ret ?_
          refine retQ.one (ResAt.tmp rfl) ?_
          exact congrArg Value.bool (decide_eq_false (by intro h; have h1 := h.2.2 k hk; have e : ((k : Int) - 1).toNat = k - 1 := (by omega); rw [e] at c4; omega)).symm
        · refine SX.skip ?_
          refine blockQ.normal ?_
          refine thenQ.normal ?_
          refine SX.region ?_
          refine SXL.add rfl rfl (by omega) ?_
          refine SXL.move rfl ?_
          refine SXL.nil ?_
          refine thenQ.normal ?_
          refine ⟨k + 1, Meets.mk _ ⟨rfl, trivial⟩ ⟨rfl, rfl, rfl, rfl, trivial⟩ rfl, ?_, by omega⟩
          refine ⟨by omega, fun i hi h => ?_⟩
          by_cases hik : i = k
          · subst hik
            have e : ((i : Int) - 1).toNat = i - 1 := by omega
            rw [e] at c4
            omega
          · exact hall2 i (by omega) h
      · refine SX.exit ?_
        refine thenQ.exit ?_
        refine thenQ.exit ?_
        refine blockQ.exit ?_
        refine thenQ.normal ?_
        refine SX.seq ?_
        refine SX.region ?_
        refine SXL.assign rfl ?_
        refine SXL.nil ?_
        refine thenQ.normal ?_
        refine SX.ret ?_
        refine retQ.one (ResAt.tmp rfl) ?_
        exact congrArg Value.bool (decide_eq_true (p := SpP s) ⟨by unfold HeadP; omega, fun i h => hall i (by omega) h, fun i h => hall2 i (by omega) h⟩).symm
end Go.Proofs.YtknflipongbngaaDoor

/- The walks of functions. -/
namespace Go.Proofs.YtknflipongbngaaDoor
open Go.X Go.S
end Go.Proofs.YtknflipongbngaaDoor

/- The walks of functions. -/
namespace Go.Proofs.YtknflipongbngaaDoor
open Go.X Go.S
end Go.Proofs.YtknflipongbngaaDoor

/- The walks of functions. -/
namespace Go.Proofs.YtknflipongbngaaDoor
open Go.X Go.S
end Go.Proofs.YtknflipongbngaaDoor

/- From week to week, and back: both ways of reckoning come to the same. Nothing of Go stands here. -/
namespace Go.S
open Go.X (G)
/-- What is given week by week, within bounds. -/
def Tr (n : Nat) (f : Int) (lo hi : Nat → Int) (t : Nat → Int) : Prop := ∀ w, w < n → lo w ≤ t w ∧ t w ≤ hi w ∧ (0 < w → t (w - 1) - f ≤ t w ∧ t w ≤ t (w - 1))
/-- All truths lie within. -/
def Wn (n : Nat) (f : Int) (lo hi lo' hi' : Nat → Int) : Prop := ∀ t, Tr n f lo hi t → ∀ w, w < n → lo' w ≤ t w ∧ t w ≤ hi' w
/-- The steps of the lower and the upper ends are right. -/
def Stp (n : Nat) (f : Int) (lo hi : Nat → Int) : Prop := ∀ w, w < n → 0 < w → (lo (w - 1) - f ≤ lo w ∧ lo w ≤ lo (w - 1)) ∧ (hi (w - 1) - f ≤ hi w ∧ hi w ≤ hi (w - 1))
/-! ### the reference: there and back -/
structure FwdP (n : Nat) (f : Int) (L M : List Int) (j : Nat) : Prop where
  len : M.length = 20
  step : ∀ w, w ≤ j → 0 < w → G M (w - 1) - f ≤ G M w ∧ G M (10 + w) ≤ G M (10 + (w - 1))
  rest : ∀ w, w < 10 → j < w → G M w = G L w ∧ G M (10 + w) = G L (10 + w)
  sub : ∀ w, w < 10 → G L w ≤ G M w ∧ G M (10 + w) ≤ G L (10 + w)
  wn : Wn n f (fun w => G L w) (fun w => G L (10 + w)) (fun w => G M w) (fun w => G M (10 + w))
/-- After j weeks back from n - 1. -/
structure BwdP (n : Nat) (f : Int) (L K M : List Int) (j : Nat) : Prop where
  len : M.length = 20
  done : ∀ w, w < n → 0 < w → n - 1 - j < w → (G M (w - 1) - f ≤ G M w ∧ G M w ≤ G M (w - 1)) ∧ (G M (10 + (w - 1)) - f ≤ G M (10 + w) ∧ G M (10 + w) ≤ G M (10 + (w - 1)))
  rest : ∀ w, w < 10 → (w + j + 1 < n ∨ n ≤ w ∨ w + 1 = n) → G M w = G K w ∧ G M (10 + w) = G K (10 + w)
  sub : ∀ w, w < 10 → G K w ≤ G M w ∧ G M (10 + w) ≤ G K (10 + w)
  wn : Wn n f (fun w => G L w) (fun w => G L (10 + w)) (fun w => G M w) (fun w => G M (10 + w))
/-- What the reference comes to, of what lines and readings leave (C). -/
structure RefP (n : Nat) (f : Int) (C X : List Int) : Prop where
  len : X.length = 20
  stp : Stp n f (fun w => G X w) (fun w => G X (10 + w))
  sub : ∀ w, w < 10 → G C w ≤ G X w ∧ G X (10 + w) ≤ G C (10 + w)
  rest : ∀ w, w < 10 → n ≤ w → G X w = G C w ∧ G X (10 + w) = G C (10 + w)
  wn : Wn n f (fun w => G C w) (fun w => G C (10 + w)) (fun w => G X w) (fun w => G X (10 + w))
end Go.S

/- The package spring: again and again until nothing turns. Nothing of Go stands here. -/
namespace Go.S
open Go.X (G)
/-- One step: week i by the week before, and back. -/
def step1 (f : Int) (M : List Int) (k : Nat) : List Int := set2 M (k + 1) (bothP (Lo M (k + 1)) (Hi M (k + 1)) (Lo M k - f) (Hi M k))
def step2 (f : Int) (M : List Int) (k : Nat) : List Int := set2 M k (bothP (Lo M k) (Hi M k) (Lo M (k + 1)) (Hi M (k + 1) + f))
def stepM (f : Int) (M : List Int) (k : Nat) : List Int := step2 f (step1 f M k) k
def NoneAt (M : List Int) (i : Nat) : Prop := Lo M i = 1 ∧ Hi M i = 0
instance (M : List Int) (i : Nat) : Decidable (NoneAt M i) := by unfold NoneAt; infer_instance
def psTo (f : Int) (M : List Int) : Nat → List Int
  | 0 => M
  | k + 1 => stepM f (psTo f M k) k
/-- No step has come to nothing. -/
def Alive (f : Int) (M : List Int) (k : Nat) : Prop := ∀ j, j < k → ¬NoneAt (psTo f M (j + 1)) j ∧ ¬NoneAt (psTo f M (j + 1)) (j + 1)
def sumW (M : List Int) : Nat → Int
  | 0 => 0
  | k + 1 => sumW M k + (Hi M k - Lo M k + 1)
@[simp] theorem step1_len (f : Int) (M : List Int) (k : Nat) : (step1 f M k).length = M.length := by simp [step1]
@[simp] theorem step2_len (f : Int) (M : List Int) (k : Nat) : (step2 f M k).length = M.length := by simp [step2]
@[simp] theorem stepM_len (f : Int) (M : List Int) (k : Nat) : (stepM f M k).length = M.length := by simp [stepM]
@[simp] theorem psTo_len (f : Int) (M : List Int) : ∀ k, (psTo f M k).length = M.length
  | 0 => rfl
  | k + 1 => by simp [psTo, psTo_len f M k]
theorem sumW_set {M : List Int} (hM : M.length = 20) {i : Nat} (hi : i < 10) (p : Int × Int) : ∀ k, k ≤ 10 → sumW (set2 M i p) k = sumW M k + (if i < k then (p.2 - p.1) - (Hi M i - Lo M i) else 0)
  | 0, _ => by simp [sumW]
  | k + 1, hk => by
    have ih := sumW_set hM hi p k (by omega)
    obtain ⟨h1, h2⟩ := set2_at hM hi (j := k) (by omega) p
    simp only [sumW, ih, h1, h2]
    by_cases e : i = k
    · subst e
      rw [if_pos rfl, if_pos rfl, if_neg (by omega), if_pos (by omega)]
      omega
    · rw [if_neg e, if_neg e]
      by_cases e2 : i < k
      · rw [if_pos e2, if_pos (by omega)]; omega
      · rw [if_neg e2, if_neg (by omega)]; omega
theorem list_ext20 {M K : List Int} (hM : M.length = 20) (hK : K.length = 20) (h : ∀ j, j < 10 → Lo M j = Lo K j ∧ Hi M j = Hi K j) : M = K := by
  refine List.ext_getElem (by omega) fun i h1 h2 => ?_
  have h3 := h (i / 2) (by omega)
  have hg : ∀ (L : List Int) (hi : i < L.length), G L i = L[i] := fun L hi => by simp [G, hi]
  rw [← hg M h1, ← hg K h2]
  by_cases e : i % 2 = 0
  · have : i = i / 2 * 2 := by omega
    rw [this]; exact h3.1
  · have : i = i / 2 * 2 + 1 := by omega
    rw [this]; exact h3.2
/-- A span set to a part of itself: the same, or less. -/
theorem set_less {M : List Int} (hM : M.length = 20) (hS : Sb M) {i : Nat} (hi : i < 10) (c d : Int) :
    set2 M i (bothP (Lo M i) (Hi M i) c d) = M ∨ sumW (set2 M i (bothP (Lo M i) (Hi M i) c d)) 10 < sumW M 10 := by
  have hs := sumW_set hM hi (bothP (Lo M i) (Hi M i) c d) 10 (Nat.le_refl _)
  rw [if_pos hi] at hs
  have hsi := hS i hi
  by_cases e : (bothP (Lo M i) (Hi M i) c d).1 = Lo M i ∧ (bothP (Lo M i) (Hi M i) c d).2 = Hi M i
  · left
    refine list_ext20 (by simp [hM]) hM fun j hj => ?_
    obtain ⟨h1, h2⟩ := set2_at hM hi hj (bothP (Lo M i) (Hi M i) c d)
    rw [h1, h2]
    by_cases hij : i = j
    · subst hij; rw [if_pos rfl, if_pos rfl]; exact e
    · rw [if_neg hij, if_neg hij]; exact ⟨rfl, rfl⟩
  · right
    rw [hs]
    revert e
    unfold bothP
    split
    · simp only; omega
    · simp only; omega
theorem step_less {f : Int} {M : List Int} (hM : M.length = 20) (hS : Sb M) {k : Nat} (hk : k + 1 < 10) :
    Sb (step1 f M k) ∧ Sb (stepM f M k) ∧ ((step1 f M k = M ∧ stepM f M k = M) ∨ sumW (stepM f M k) 10 < sumW M 10) := by
  have h1 : Sb (step1 f M k) := hS.set hM hk (bothP_sb (hS _ hk))
  have hl : (step1 f M k).length = 20 := by simp [hM]
  have h2 : Sb (stepM f M k) := h1.set hl (by omega) (bothP_sb (h1 _ (by omega)))
  refine ⟨h1, h2, ?_⟩
  have a := set_less hM hS hk (Lo M k - f) (Hi M k)
  have b := set_less hl h1 (i := k) (by omega) (Lo (step1 f M k) (k + 1)) (Hi (step1 f M k) (k + 1) + f)
  rcases b with b | b
  · rcases a with a | a
    · have a' : step1 f M k = M := a
      exact .inl ⟨a', (show stepM f M k = step1 f M k from b).trans a'⟩
    · right
      rw [show stepM f M k = step1 f M k from b]; exact a
  · rcases a with a | a
    · right
      have a' : step1 f M k = M := a
      have : sumW (stepM f M k) 10 < sumW (step1 f M k) 10 := b
      rwa [a'] at this
    · right
      have : sumW (stepM f M k) 10 < sumW (step1 f M k) 10 := b
      have a2 : sumW (step1 f M k) 10 < sumW M 10 := a
      omega
/-- All truths of C lie within M, and M in C. -/
structure KeepP (n : Nat) (f : Int) (C M : List Int) : Prop where
  len : M.length = 20
  sb : Sb M
  sub : ∀ w, w < n → Lo M w ≤ Hi M w → Lo C w ≤ Lo M w ∧ Hi M w ≤ Hi C w
  wn : Wn n f (Lo C) (Hi C) (Lo M) (Hi M)
  rest : ∀ w, w < 10 → n ≤ w → Lo M w = Lo C w ∧ Hi M w = Hi C w
theorem both_in {a b c d t : Int} (h1 : a ≤ t ∧ t ≤ b) (h2 : c ≤ t ∧ t ≤ d) : (bothP a b c d).1 ≤ t ∧ t ≤ (bothP a b c d).2 := by
  unfold bothP
  split
  · omega
  · simp only; omega
theorem both_sub {a b c d : Int} (h : (bothP a b c d).1 ≤ (bothP a b c d).2) : a ≤ (bothP a b c d).1 ∧ (bothP a b c d).2 ≤ b := by
  revert h
  unfold bothP
  split
  · simp
  · simp only; omega
theorem KeepP.step {n : Nat} {f : Int} {C M : List Int} (h : KeepP n f C M) (hn : n ≤ 10) {k : Nat} (hk : k + 1 < n) : KeepP n f C (stepM f M k) := by
  obtain ⟨s1, s2, _⟩ := step_less (f := f) h.len h.sb (k := k) (by omega)
  have hl : (step1 f M k).length = 20 := by simp [h.len]
  have a1 := fun (j : Nat) (hj : j < 10) => set2_at h.len (i := k + 1) (j := j) (by omega) hj (bothP (Lo M (k + 1)) (Hi M (k + 1)) (Lo M k - f) (Hi M k))
  have a2 := fun (j : Nat) (hj : j < 10) => set2_at hl (i := k) (j := j) (by omega) hj (bothP (Lo (step1 f M k) k) (Hi (step1 f M k) k) (Lo (step1 f M k) (k + 1)) (Hi (step1 f M k) (k + 1) + f))
  have b1 : ∀ j, j < 10 → Lo (step1 f M k) j = _ ∧ Hi (step1 f M k) j = _ := a1
  have b2 : ∀ j, j < 10 → Lo (stepM f M k) j = _ ∧ Hi (stepM f M k) j = _ := a2
  refine ⟨by simp [h.len], s2, fun w hw hne => ?_, fun t ht w hw => ?_, fun w h10 hw => ?_⟩
  · have c1 := b1 w (by omega); have c2 := b2 w (by omega)
    have hsub := h.sub w hw
    rw [c2.1, c2.2] at hne ⊢
    by_cases e : k = w
    · subst e
      rw [if_pos rfl, if_pos rfl] at hne ⊢
      have h3 := both_sub hne
      rw [c1.1, c1.2, if_neg (by omega), if_neg (by omega)] at h3 hne ⊢
      have := hsub (by omega)
      omega
    · rw [if_neg e, if_neg e] at hne ⊢
      rw [c1.1, c1.2] at hne ⊢
      by_cases e2 : k + 1 = w
      · subst e2
        rw [if_pos rfl, if_pos rfl] at hne ⊢
        have h3 := both_sub hne
        have := hsub (by omega)
        omega
      · rw [if_neg e2, if_neg e2] at hne ⊢
        exact hsub hne
  · have hstep := (ht (k + 1) hk).2.2 (by omega)
    simp only [Nat.add_sub_cancel] at hstep
    have t0 := h.wn t ht k (by omega)
    have t1 := h.wn t ht (k + 1) hk
    have u1 : Lo (step1 f M k) (k + 1) ≤ t (k + 1) ∧ t (k + 1) ≤ Hi (step1 f M k) (k + 1) := by
      have c1 := b1 (k + 1) (by omega)
      rw [c1.1, c1.2, if_pos rfl, if_pos rfl]
      exact both_in t1 (by omega)
    have u0 : Lo (step1 f M k) k ≤ t k ∧ t k ≤ Hi (step1 f M k) k := by
      have c1 := b1 k (by omega)
      rw [c1.1, c1.2, if_neg (by omega), if_neg (by omega)]
      exact t0
    have c2 := b2 w (by omega)
    rw [c2.1, c2.2]
    by_cases e : k = w
    · subst e
      rw [if_pos rfl, if_pos rfl]
      exact both_in u0 (by omega)
    · rw [if_neg e, if_neg e]
      by_cases e2 : k + 1 = w
      · subst e2; exact u1
      · have c1 := b1 w (by omega)
        rw [c1.1, c1.2, if_neg e2, if_neg e2]
        exact h.wn t ht w hw
  · have c1 := b1 w h10; have c2 := b2 w h10
    rw [c2.1, c2.2, if_neg (by omega), if_neg (by omega), c1.1, c1.2, if_neg (by omega), if_neg (by omega)]
    exact h.rest w h10 hw
theorem KeepP.ps {n : Nat} {f : Int} {C M : List Int} (h : KeepP n f C M) (hn : n ≤ 10) : ∀ k, k + 1 ≤ n → KeepP n f C (psTo f M k)
  | 0, _ => h
  | k + 1, hk => (h.ps hn k (by omega)).step hn (by omega)
theorem KeepP.none {n : Nat} {f : Int} {C M : List Int} (h : KeepP n f C M) {i : Nat} (hi : i < n) (hN : NoneAt M i) : ¬∃ t, Tr n f (Lo C) (Hi C) t := by
  rintro ⟨t, ht⟩
  have := h.wn t ht i hi
  obtain ⟨h1, h2⟩ := hN
  omega
end Go.S

/- Both ways of reckoning what readings, lines and a rain leave. Nothing of Go stands here. -/
namespace Go.S
open Go.X (G)
/-- The same spans, or none on both sides. -/
def RelC (n : Nat) (R L : List Int) : Prop := ∀ w, w < n → (Lo R w = G L w ∧ Hi R w = G L (10 + w)) ∨ (Hi R w < Lo R w ∧ G L (10 + w) < G L w)
theorem RelC.tr {n : Nat} {f : Int} {R L : List Int} (h : RelC n R L) (t : Nat → Int) : Tr n f (Lo R) (Hi R) t ↔ Tr n f (fun w => G L w) (fun w => G L (10 + w)) t := by
  constructor
  · intro ht w hw
    have h1 := ht w hw
    refine ⟨?_, ?_, h1.2.2⟩ <;> rcases h w hw with ⟨a, b⟩ | ⟨a, b⟩ <;> simp only <;> omega
  · intro ht w hw
    have h1 := ht w hw
    simp only at h1
    refine ⟨?_, ?_, h1.2.2⟩ <;> rcases h w hw with ⟨a, b⟩ | ⟨a, b⟩ <;> omega
/-- Lines, as the package spring reckons them. -/
def slTo (s : Sp) (R : List Int) (rain : Int) : Nat → List Int
  | 0 => R
  | k + 1 => let x := s.book.getD k default
    if Wi rain x.r0 x.r1 then set2 (slTo s R rain k) x.wk.toNat (bothP (Lo (slTo s R rain k) x.wk.toNat) (Hi (slTo s R rain k) x.wk.toNat) x.g0 x.g1) else slTo s R rain k
@[simp] theorem slTo_len (s : Sp) (R : List Int) (rain : Int) : ∀ k, (slTo s R rain k).length = R.length
  | 0 => rfl
  | k + 1 => by
    have ih := slTo_len s R rain k
    simp only [slTo]
    split <;> simp [ih]
/-- Ends beside each other. -/
def ilv (X : List Int) : List Int := (List.range 20).map fun i => if i % 2 = 0 then G X (i / 2) else G X (10 + i / 2)
@[simp] theorem ilv_len (X : List Int) : (ilv X).length = 20 := by simp [ilv]
end Go.S

/- What readings leave: both ways of reckoning. Nothing of Go stands here. -/
namespace Go.S
open Go.X (G)
/-- R and L say the same of a valid spring's weeks. -/
structure RelW (s : Sp) (R L : List Int) : Prop where
  lr : R.length = 20
  ll : Bd L
  sb : Sb R
  rel : RelC s.weeks.toNat R L
  rest : ∀ w, w < 10 → s.weeks.toNat ≤ w → Lo R w = G L w ∧ Hi R w = G L (10 + w)
end Go.S

/- The end of the package spring's reckoning. Nothing of Go stands here. -/
namespace Go.S
open Go.X (G)
end Go.S

/- Springs without some readings: the plain words. Nothing of Go stands here. -/
namespace Go.S
open Go.X (G)
/-- Those that are not struck. -/
def keepR (l : List Rd) (ns : List Int) : List Rd := l.filter fun x => decide (x.num ∉ ns)
/-- A spring without some readings. -/
def wo (s : Sp) (ns : List Int) : Sp := { s with reads := keepR s.reads ns }
def numsL (s : Sp) : List Int := s.reads.map (·.num)
@[simp] theorem length_numsL (s : Sp) : (numsL s).length = s.reads.length := by simp [numsL]
theorem keepR_len (l : List Rd) (ns : List Int) : (keepR l ns).length ≤ l.length := List.length_filter_le _ _
theorem take_snoc {α : Type} [Inhabited α] {l : List α} {k : Nat} (h : k < l.length) : l.take (k + 1) = l.take k ++ [l.getD k default] := by
  rw [List.take_add_one, List.getElem?_eq_getElem h]
  simp [h]
theorem keepR_yes {l : List Rd} {ns : List Int} {k : Nat} (h : k < l.length) (hn : (l.getD k default).num ∉ ns) : keepR (l.take (k + 1)) ns = keepR (l.take k) ns ++ [l.getD k default] := by
  rw [take_snoc h]
  simp only [keepR, List.filter_append]
  rw [List.filter_cons_of_pos (by simpa using hn)]
  rfl
theorem keepR_no {l : List Rd} {ns : List Int} {k : Nat} (h : k < l.length) (hn : (l.getD k default).num ∈ ns) : keepR (l.take (k + 1)) ns = keepR (l.take k) ns := by
  rw [take_snoc h]
  simp only [keepR, List.filter_append]
  rw [List.filter_cons_of_neg (by simpa using hn)]
  simp
theorem mem_take_succ {ns : List Int} {j : Nat} (h : j < ns.length) {x : Int} : x ∈ ns.take (j + 1) ↔ (x ∈ ns.take j ∨ ns.getD j 0 = x) := by
  rw [show ns.take (j + 1) = ns.take j ++ [ns.getD j 0] from take_snoc h]
  simp [eq_comm]
/-- Readings in order: each is right, each Number is greater than all before. -/
theorem readsP_iff {s : Sp} : ReadsP s ↔ (∀ x ∈ s.reads, RdP x s.weeks) ∧ s.reads.Pairwise fun a b => a.num < b.num := by
  constructor
  · intro h
    refine ⟨fun x hx => ?_, ?_⟩
    · obtain ⟨i, hi, rfl⟩ := List.getElem_of_mem hx
      exact (h i hi).1
    · rw [List.pairwise_iff_getElem]
      intro i j hi hj hij
      have key : ∀ m, ∀ (hm : i + m + 1 < s.reads.length), s.reads[i].num < s.reads[i + m + 1].num := by
        intro m
        induction m with
        | zero =>
          intro hm
          have := (h (i + 1) hm).2 (by omega)
          rw [Nat.add_sub_cancel] at this
          simpa [hi] using this
        | succ m ih =>
          intro hm
          have h1 := ih (by omega)
          have := (h (i + m + 1 + 1) (by omega)).2 (by omega)
          rw [Nat.add_sub_cancel] at this
          rw [List.getD_eq_getElem?_getD, List.getElem?_eq_getElem (show i + m + 1 < s.reads.length by omega)] at this
          simp only [Option.getD_some] at this
          have e : i + (m + 1) + 1 = i + m + 1 + 1 := by omega
          simp only [e]
          omega
      have := key (j - i - 1) (by omega)
      have e : i + (j - i - 1) + 1 = j := by omega
      simpa only [e] using this
  · rintro ⟨h1, h2⟩ i hi
    refine ⟨h1 _ (List.getElem_mem hi), fun h0 => ?_⟩
    have := List.pairwise_iff_getElem.1 h2 (i - 1) i (by omega) hi (by omega)
    simpa [show i - 1 < s.reads.length by omega] using this
theorem nums_nodup {s : Sp} (h : ReadsP s) : (numsL s).Nodup := by
  have := (readsP_iff.1 h).2
  unfold numsL
  rw [List.Nodup, List.pairwise_map]
  exact this.imp fun h => by omega
theorem nodup_at {l : List Rd} (h : (l.map (·.num)).Nodup) {i j : Nat} (hi : i < l.length) (hj : j < l.length) (he : (l.getD i default).num = (l.getD j default).num) : i = j := by
  have hp := List.pairwise_iff_getElem.1 h
  have e1 : l[i].num = l[j].num := by simpa [hi, hj] using he
  rcases Nat.lt_trichotomy i j with hlt | rfl | hlt
  · exact absurd (by rw [List.getElem_map, List.getElem_map]; exact e1) (hp i j (by simpa using hi) (by simpa using hj) hlt)
  · rfl
  · exact absurd (by rw [List.getElem_map, List.getElem_map]; exact e1.symm) (hp j i (by simpa using hj) (by simpa using hi) hlt)
def gvL (s : Sp) (week : Int) : List Int := [givesLo s week, givesHi s week]
/-- On which readings a week rests. -/
def restsTo (s : Sp) (week : Int) (k : Nat) : List Int := ((s.reads.take k).filter fun x => decide (gvL (wo s [x.num]) week ≠ gvL s week)).map (·.num)
def restsL (s : Sp) (week : Int) : List Int := if toldE s week = 0 then restsTo s week s.reads.length else []
/-- The first list of so many readings more, of those from an index on, without which there is a truth. -/
def struckFrom (rec : Nat → List Int → Option (List Int)) (s : Sp) (l : List Int) : Nat → Nat → Option (List Int)
  | _, 0 => none
  | i, f + 1 => match rec (i + 1) (l ++ [(s.reads.getD i default).num]) with
    | some r => some r
    | none => struckFrom rec s l (i + 1) f
def struckP (s : Sp) : Nat → Nat → List Int → Option (List Int)
  | 0, _, l => if TrueP (wo s l) then some l else none
  | m + 1, i, l => struckFrom (struckP s m) s l i (s.reads.length - i)
/-- The readings that must be false; the error. -/
def wrongF (s : Sp) : Option (List Int) := match struckP s 0 0 [] with
  | some r => some r
  | none => match struckP s 1 0 [] with
    | some r => some r
    | none => struckP s 2 0 []
def wrongE (s : Sp) : Int := if ¬SpP s then 10 else if (wrongF s).isSome then 0 else if ¬TrueP { s with reads := [] } then 6 else 4
def wrongL (s : Sp) : List Int := if SpP s then (wrongF s).getD [] else []
end Go.S

/- What is true of a spring, and what is told of it: the plain words. Nothing of Go stands here. -/
namespace Go.S
open Go.X (G)
/-- What may be given week by week, with a rain, of what is left of each week. -/
def Tl (s : Sp) (L : List Int) (rain : Int) (t : Nat → Int) : Prop := ∀ w, w < s.weeks.toNat →
  (G L w ≤ t w ∧ t w ≤ G L (10 + w)) ∧ (∀ x ∈ s.book, x.wk = w → Wi rain x.r0 x.r1 → Wi (t w) x.g0 x.g1) ∧ (0 < w → t (w - 1) - s.fall ≤ t w ∧ t w ≤ t (w - 1))
/-- A truth: a rain, and what is given week by week. -/
def Truth (s : Sp) (rain : Int) (t : Nat → Int) : Prop := ∀ w, w < s.weeks.toNat →
  ((0 ≤ t w ∧ t w ≤ s.most) ∧ OkP s w (t w)) ∧ (∀ x ∈ s.book, x.wk = w → Wi rain x.r0 x.r1 → Wi (t w) x.g0 x.g1) ∧ (0 < w → t (w - 1) - s.fall ≤ t w ∧ t w ≤ t (w - 1))
end Go.S

/- What all rains leave of each week. Nothing of Go stands here. -/
namespace Go.S
open Go.X (G)
def mk20 (lo hi : Nat → Int) : List Int := (List.range 20).map fun i => if i % 2 = 0 then lo (i / 2) else hi (i / 2)
@[simp] theorem mk20_len (lo hi : Nat → Int) : (mk20 lo hi).length = 20 := by simp [mk20]
theorem mk20_at (lo hi : Nat → Int) {w : Nat} (hw : w < 10) : Lo (mk20 lo hi) w = lo w ∧ Hi (mk20 lo hi) w = hi w := by
  unfold Lo Hi mk20
  constructor
  · have : w * 2 < 20 := by omega
    simp [G, this]
  · have h1 : w * 2 + 1 < 20 := by omega
    have h2 : (w * 2 + 1) % 2 = 1 := by omega
    have h3 : (w * 2 + 1) / 2 = w := by omega
    simp [G, h1, h2, h3]
def oLo (n : Nat) (A : List (List Int)) (i : Nat) : Int := if A = [] ∨ n ≤ i then 0 else hLo A i
def oHi (n : Nat) (A : List (List Int)) (i : Nat) : Int := if A = [] ∨ n ≤ i then 0 else hHi A i
def outL (n : Nat) (A : List (List Int)) : List Int := mk20 (oLo n A) (oHi n A)
theorem hTo_snoc {A : List (List Int)} (X : List Int) (w : Nat) (hA : A ≠ []) : ∀ k, k ≤ A.length → hLoTo (A ++ [X]) w k = hLoTo A w k ∧ hHiTo (A ++ [X]) w k = hHiTo A w k
  | 0, _ => by
    have h0 : 0 < A.length := List.length_pos_iff.2 hA
    have e : (A ++ [X]).getD 0 [] = A.getD 0 [] := by rw [List.getD_eq_getElem?_getD, List.getD_eq_getElem?_getD, List.getElem?_append_left h0]
    simp only [hLoTo, hHiTo, e]; exact ⟨trivial, trivial⟩
  | k + 1, hk => by
    have ih := hTo_snoc X w hA k (by omega)
    have h0 : k < A.length := by omega
    have e : (A ++ [X]).getD k [] = A.getD k [] := by rw [List.getD_eq_getElem?_getD, List.getD_eq_getElem?_getD, List.getElem?_append_left h0]
    simp only [hLoTo, hHiTo, ih.1, ih.2, e]; exact ⟨trivial, trivial⟩
theorem h_snoc {A : List (List Int)} (X : List Int) (w : Nat) : hLo (A ++ [X]) w = (if A = [] then G X w else min (hLo A w) (G X w)) ∧ hHi (A ++ [X]) w = (if A = [] then G X (10 + w) else max (hHi A w) (G X (10 + w))) := by
  by_cases hA : A = []
  · subst hA
    rw [if_pos rfl, if_pos rfl]
    simp [hLo, hHi, hLoTo, hHiTo]
  · rw [if_neg hA, if_neg hA]
    have h := hTo_snoc X w hA A.length (Nat.le_refl _)
    unfold hLo hHi
    rw [show (A ++ [X]).length = A.length + 1 by simp]
    simp only [hLoTo, hHiTo, h.1, h.2]
    simp
/-- One rain more: week j. -/
theorem o_snoc {n : Nat} {A : List (List Int)} (X : List Int) {i : Nat} (hi : i < n) : oLo n (A ++ [X]) i = (if A = [] then G X i else min (oLo n A i) (G X i)) ∧ oHi n (A ++ [X]) i = (if A = [] then G X (10 + i) else max (oHi n A i) (G X (10 + i))) := by
  obtain ⟨h1, h2⟩ := h_snoc (A := A) X i
  unfold oLo oHi
  have hne : ¬((A ++ [X]) = [] ∨ n ≤ i) := by
    rintro (h | h)
    · simp at h
    · omega
  simp only [if_neg hne, h1, h2]
  by_cases hA : A = []
  · simp only [if_pos hA]; exact ⟨trivial, trivial⟩
  · have hne2 : ¬(A = [] ∨ n ≤ i) := by
      rintro (h | h)
      · exact hA h
      · omega
    simp only [if_neg hA, if_neg hne2]; exact ⟨trivial, trivial⟩
theorem o_rest {n : Nat} {A : List (List Int)} {i : Nat} (hi : n ≤ i) : oLo n A i = 0 ∧ oHi n A i = 0 := by
  unfold oLo oHi
  rw [if_pos (.inr hi), if_pos (.inr hi)]; exact ⟨rfl, rfl⟩
/-- M holds what the rains of A leave. -/
structure IsO (n : Nat) (A : List (List Int)) (M : List Int) : Prop where
  len : M.length = 20
  at_ : ∀ i, i < 10 → Lo M i = oLo n A i ∧ Hi M i = oHi n A i
theorem IsO.eq {n : Nat} {A : List (List Int)} {M : List Int} (h : IsO n A M) : M = outL n A :=
  list_ext20 h.len (by simp [outL]) fun j hj => by
    obtain ⟨h1, h2⟩ := mk20_at (oLo n A) (oHi n A) hj
    have := h.at_ j hj
    rw [this.1, this.2]; exact ⟨h1.symm, h2.symm⟩
theorem IsO.zero (n : Nat) : IsO n [] (List.replicate 20 0) := ⟨by simp, fun i hi => by
  have h : ∀ i, i < 10 → G (List.replicate 20 (0 : Int)) (i * 2) = 0 ∧ G (List.replicate 20 (0 : Int)) (i * 2 + 1) = 0 := by decide
  have := h i hi
  simp only [Lo, Hi, this.1, this.2, oLo, oHi, true_or, if_true, and_self]⟩
/-- Weeks below j have the new rain. -/
structure MidO (n : Nat) (A : List (List Int)) (X : List Int) (j : Nat) (M : List Int) : Prop where
  len : M.length = 20
  new_ : ∀ i, i < j → i < 10 → Lo M i = oLo n (A ++ [X]) i ∧ Hi M i = oHi n (A ++ [X]) i
  old_ : ∀ i, j ≤ i → i < 10 → Lo M i = oLo n A i ∧ Hi M i = oHi n A i
theorem MidO.done {n : Nat} {A : List (List Int)} {X M : List Int} (h : MidO n A X n M) : IsO n (A ++ [X]) M := ⟨h.len, fun i hi => by
  by_cases e : i < n
  · exact h.new_ i e hi
  · have a := h.old_ i (by omega) hi
    have b := o_rest (A := A) (show n ≤ i by omega); have c := o_rest (A := A ++ [X]) (show n ≤ i by omega)
    omega⟩
theorem MidO.next {n : Nat} {A : List (List Int)} {X M M3 : List Int} {j : Nat} (h : MidO n A X j M) (hj : j < n) (hn : n ≤ 10) (h3 : M3 = if A = [] then set2 M j (G X j, G X (10 + j)) else M) :
    MidO n A X (j + 1) (set2 M3 j (min (Lo M3 j) (G X j), max (Hi M3 j) (G X (10 + j)))) := by
  have hl : M3.length = 20 := by rw [h3]; split <;> simp [h.len]
  have hs := o_snoc (A := A) X hj
  have hold := h.old_ j (Nat.le_refl _) (by omega)
  have e3 : Lo M3 j = (if A = [] then G X j else oLo n A j) ∧ Hi M3 j = (if A = [] then G X (10 + j) else oHi n A j) := by
    rw [h3]
    by_cases hA : A = []
    · rw [if_pos hA, if_pos hA, if_pos hA]
      obtain ⟨a, b⟩ := set2_at h.len (i := j) (j := j) (by omega) (by omega) (G X j, G X (10 + j))
      rw [a, b, if_pos rfl, if_pos rfl]; exact ⟨rfl, rfl⟩
    · rw [if_neg hA, if_neg hA, if_neg hA]; exact hold
  have e4 : ∀ i, i < 10 → i ≠ j → Lo M3 i = Lo M i ∧ Hi M3 i = Hi M i := fun i hi hne => by
    rw [h3]
    by_cases hA : A = []
    · rw [if_pos hA]
      obtain ⟨a, b⟩ := set2_at h.len (i := j) (j := i) (by omega) hi (G X j, G X (10 + j))
      rw [a, b, if_neg (Ne.symm hne), if_neg (Ne.symm hne)]; exact ⟨rfl, rfl⟩
    · rw [if_neg hA]; exact ⟨rfl, rfl⟩
  refine ⟨by simp [hl], fun i hi h10 => ?_, fun i hi h10 => ?_⟩
  · obtain ⟨a, b⟩ := set2_at hl (i := j) (j := i) (by omega) h10 (min (Lo M3 j) (G X j), max (Hi M3 j) (G X (10 + j)))
    rw [a, b]
    by_cases e : j = i
    · subst e
      rw [if_pos rfl, if_pos rfl, hs.1, hs.2, e3.1, e3.2]
      by_cases hA : A = []
      · simp only [if_pos hA]; omega
      · simp only [if_neg hA]; exact ⟨trivial, trivial⟩
    · rw [if_neg e, if_neg e, (e4 i h10 (Ne.symm e)).1, (e4 i h10 (Ne.symm e)).2]
      exact h.new_ i (by omega) h10
  · obtain ⟨a, b⟩ := set2_at hl (i := j) (j := i) (by omega) h10 (min (Lo M3 j) (G X j), max (Hi M3 j) (G X (10 + j)))
    rw [a, b, if_neg (by omega), if_neg (by omega), (e4 i h10 (by omega)).1, (e4 i h10 (by omega)).2]
    exact h.old_ i (by omega) h10
end Go.S

/- Weeks in which it fails, what gives least and most, buckets, what tells most: the plain words. Nothing of Go stands here. -/
namespace Go.S
open Go.X (G idxF)
/-! ### the first that is least -/
def amin (f : Nat → Int) : Nat → Nat
  | 0 => 0
  | k + 1 => if f (k + 1) < f (amin f k) then k + 1 else amin f k
/-! ### sums -/
def sumTo (l : List Int) : Nat → Int
  | 0 => 0
  | k + 1 => sumTo l k + l.getD k 0
def sumL (l : List Int) : Int := sumTo l l.length
/-- The lower ends (off = 0) or the upper ones (off = 10) of so many weeks. -/
def endL (X : List Int) (off n : Nat) : List Int := (X.drop off).take n
/-! ### weeks -/
/-- The value of the first week that is so, and the error. -/
def wkE (s : Sp) (i : Int) : Int := if toldE s 0 ≠ 0 then toldE s 0 else if 0 ≤ i then 0 else 6
def wkV (s : Sp) (i : Int) : Int := if toldE s 0 ≠ 0 then 0 else if 0 ≤ i then i else 0
def loI (s : Sp) (need : Int) : Int := idxF (fun w => hLo (toldA s 0) w < need) s.weeks.toNat
def hiI (s : Sp) (need : Int) : Int := idxF (fun w => hHi (toldA s 0) w < need) s.weeks.toNat
/-! ### the truths that give least and most -/
def endsL (s : Sp) (off i : Nat) : List Int := endL ((toldA s 0).getD i []) off s.weeks.toNat
def poorI (s : Sp) : Nat := amin (fun i => sumL (endsL s 0 i)) ((toldL s 0).length - 1)
def richI (s : Sp) : Nat := amin (fun i => -sumL (endsL s 10 i)) ((toldL s 0).length - 1)
def bestR (s : Sp) (i : Nat) : Int := if toldE s 0 = 0 then (toldL s 0).getD i 0 else 0
def bestL (s : Sp) (off i : Nat) : List Int := if toldE s 0 = 0 then endsL s off i else []
/-! ### buckets -/
def fillE (s : Sp) (week bucket : Int) : Int := if ¬SpP s then 10 else if ¬Wi week 0 (s.weeks - 1) then 11 else if ¬Wi bucket 1 40 then 14 else if toldE s week ≠ 0 then toldE s week else if givesLo s week = 0 then 6 else 0
def fillLo (s : Sp) (week bucket : Int) : Int := if fillE s week bucket = 0 then (3600 * bucket) / givesHi s week else 0
def fillHi (s : Sp) (week bucket : Int) : Int := if fillE s week bucket = 0 then (3600 * bucket + givesLo s week - 1) / givesLo s week else 0
/-! ### what tells most -/
def widTo (A : List (List Int)) : Nat → Int
  | 0 => 0
  | k + 1 => widTo A k + (hHi A k - hLo A k)
def wideP (s : Sp) (L : List Int) : Int := if rnsL s L = [] then -1 else widTo (lvsL s L (rnsL s L)) s.weeks.toNat
/-- One week is known. -/
def oneW (L : List Int) (w : Nat) (n : Int) : List Int := (L.set w n).set (10 + w) n
def leftTo (s : Sp) (w : Nat) : Nat → Int
  | 0 => 0
  | k + 1 => max (leftTo s w k) (wideP s (oneW (baseL s) w (G (baseL s) w + k)))
def leftN (s : Sp) (w : Nat) : Nat := (G (baseL s) (10 + w) + 1 - G (baseL s) w).toNat
def leftP (s : Sp) (w : Nat) : Int := leftTo s w (leftN s w)
def lookI (s : Sp) : Nat := amin (leftP s) (s.weeks.toNat - 1)
def lookW (s : Sp) : Int := if toldE s 0 = 0 then lookI s else 0
def lookV (s : Sp) : Int := if toldE s 0 = 0 then leftP s (lookI s) else 0
end Go.S

/- What rains leave: bounds; rows laid one behind the other. Nothing of Go stands here. -/
namespace Go.S
open Go Go.X
/-- The first least so far, and what it comes to: c where there is none. -/
def bI (f : Nat → Int) (k : Nat) : Nat := amin f (k - 1)
def bV (c : Int) (f : Nat → Int) (k : Nat) : Int := if k = 0 then c else f (amin f (k - 1))
theorem Bd.one {L : List Int} (h : Bd L) {w : Nat} {n : Int} (hn : -1000 ≤ n ∧ n ≤ 1000) : Bd (oneW L w n) := (h.set hn).set hn
/-! ### rows, one behind the other -/
theorem takeAt_of {l : List Value} : ∀ {k off : Nat} {vs : List Value}, vs.length = k → (∀ j, j < k → l[off + j]? = vs[j]?) → takeAt l off k = some vs
  | 0, _, vs, hl, _ => by
    have : vs = [] := List.eq_nil_of_length_eq_zero hl
    subst this; rfl
  | k + 1, off, v :: vs, hl, h => by
    have h0 := h 0 (by omega)
    have ih := takeAt_of (l := l) (k := k) (off := off + 1) (vs := vs) (by simpa using hl) (fun j hj => by
      have := h (j + 1) (by omega)
      simpa [Nat.add_assoc, Nat.add_comm 1 j] using this)
    simp only [takeAt]
    rw [show l[off]? = some v from by simpa using h0, ih]
end Go.S

/- The calculus' rules: a field of a value. Nothing of the program stands here. -/
namespace Go.X
open Go Go.RowKit
/-- A field of one cell: where it lies. -/
def fieldV (P : Program) (t : TypeId) (i : Nat) : Option Nat := match P.underlying t with
  | some (.struct fs) => (match fs[i]? with
    | some f => (match shapeT P f.type with | some none => some f.offset | _ => none)
    | none => none)
  | _ => none
section
variable {C : Cx} {Q : Post} {env : Env} {own : Own} {D : List Deferred} {ops : Array Oper} {rest : List Oper}
variable {d : Nat} {ty : TypeId} {pos : String} {aft : Array Edge} {g : Option (Nat × Bool)} {x y : Operand} {T T' : TypeId}
end
end Go.X

/- The calculus' rules: elements of slices of the call's own. Nothing of the program stands here. -/
namespace Go.X
open Go Go.RowKit
section
variable {C : Cx} {Q : Post} {env : Env} {own : Own} {D : List Deferred} {ops : Array Oper} {rest : List Oper}
variable {d : Nat} {ty : TypeId} {pos : String} {aft : Array Edge} {g : Option (Nat × Bool)} {x y : Operand} {T T' : TypeId}
theorem SXL.indexSl (j : Nat) {r : Sl} {n s : Nat} {k : IntKind} {i : Int} {E : TypeId} {cells : List Value} (he : elemP C.P T = some (none, s)) (hx : ev env x = some (r.val n)) (hy : ev env y = some (.int k i)) (hb : 0 ≤ i ∧ i < n)
    (_hi : own[j]? = some (r.ent E cells)) (hok : r.Ok n s cells)
    (h : ∀ b, r.blk = some b → SXL C ops rest Q ⟨(d, .pointer (some ⟨b, 0 + i.toNat * s, none⟩)) :: env, own, D⟩) (hd : Nat.blt d C.n = true := by rfl) (hw : Wanted ops g env = some true := by rfl) :
    SXL C ops ({ dst := some d, op := .indexAddr T x y, type := ty, pos, after := aft, guard := g } :: rest) Q ⟨env, own, D⟩ := by
  obtain ⟨b, hbl⟩ := hok.some (show 0 < n by omega)
  refine SXL.indexR he hx hy (ao := r.addr) (b := b) (off := 0) (by simp [Sl.addr, hbl]) hb (h b hbl) hd hw
end
end Go.X

/- The walks of functions. -/
namespace Go.Proofs.YtknflipongbngaaDoor
open Go.X Go.S Go.RowKit
/-- A rain, a list, an error. -/
structure IsR3 (r : Int) (l : List Int) (e : Int) (v : Value) (own : X.Own) : Prop where
  ex : ∃ q : Sl, q.Ok l.length 1 (ints l) ∧ v = .tuple ⟨[.int .i64 r, q.val l.length, .int .i64 e]⟩ ∧ own = [q.ent 3 (ints l)]
end Go.Proofs.YtknflipongbngaaDoor

/- The walks of functions. -/
namespace Go.Proofs.YtknflipongbngaaDoor
open Go.X Go.S Go.RowKit
theorem indexFuncInts (l : List Int) (ao : Option Addr) (c : Nat) (F : Nat) (first capt : List Value) (p : Nat → Prop) [DecidablePred p] (hF : fnOk Tryd.prog F = true) (hmx : l.length ≤ 1000000) (w : World) (h : RowsAt w ao 1 (ones l)) (hc : ∀ k, k < l.length → ∀ w', Below w.heap.size w w' → CallsR Tryd.prog F (first ++ [.int .i64 (l.getD k 0)] ++ capt) w' (fun v _ => v = .bool (decide (p k)))) :
    CallsR Tryd.prog 131 [.slice ao l.length c, .func (.func F) ⟨first⟩ ⟨capt⟩] w (fun v _ => v = .int .i64 (idxF p l.length)) := by
  refine CallsR.of_SX (n := 19) (rs := [.tmp 4]) Tryd.func131 rfl rfl rfl rfl ?_
  show SX _ _ _ ⟨[(0, .slice ao l.length c), (1, .func (.func F) ⟨first⟩ ⟨capt⟩)], [], []⟩
  refine SX.seq ?_
  refine SX.region ?_
  refine SXL.assign rfl ?_
  refine SXL.nil ?_
  refine thenQ.normal ?_
  refine SX.seq ?_
  refine SX.seq ?_
  refine SX.region ?_
  refine SXL.move rfl ?_
  refine SXL.len is_35 rfl ?_
  refine SXL.move rfl ?_
  refine SXL.nil ?_
  refine thenQ.normal ?_
  refine SX.block ?_
  refine SX.loopG (α := Nat) [0, 1, 4, 7] rfl (fun k => [(8, .int .i64 ((k : Int)))]) (fun k => []) (fun k => k ≤ l.length ∧ ∀ i, i < k → ¬p i) (fun k => l.length - k) 0 ⟨Nat.zero_le _, fun _ h => absurd h (Nat.not_lt_zero _)⟩ ⟨rfl, trivial⟩ rfl ?_
  rintro k ⟨hk, hall⟩
  refine SX.seq ?_
  refine SX.region ?_
  refine SXL.lss rfl rfl ?_
  refine SXL.nil ?_
  refine thenQ.normal ?_
  refine SX.seq ?_
  refine SX.condP rfl (fun c9 => ?_) (fun c9 => ?_)
  · refine SX.skip ?_
    refine thenQ.normal ?_
    refine SX.seq ?_
    refine SX.block ?_
    refine SX.seq ?_
    refine SX.region ?_
    refine SXL.move rfl ?_
    refine SXL.assign rfl ?_
    refine SXL.nil ?_
    refine thenQ.normal ?_
    refine SX.seq ?_
    obtain ⟨b, o, ha, hm⟩ := oneI h (i := k) (by omega)
    refine SX.region ?_
    refine SXL.move rfl ?_
    refine SXL.move rfl ?_
    refine SXL.move rfl ?_
    refine SXL.indexR el_35 rfl rfl ha (by omega) ?_
    refine SXL.load1 sh_3 rfl (hm _) ?_
    refine SXL.call1V (.bool (decide (p k))) hF rfl rfl (fun w hI => hc k (by omega) _ hI.below) ?_
    refine SXL.nil ?_
    refine thenQ.normal ?_
    refine SX.condP rfl (fun c16 => ?_) (fun c16 => ?_)
    · refine SX.seq ?_
      refine SX.region ?_
      refine SXL.move rfl ?_
      refine SXL.assign rfl ?_
      refine SXL.nil ?_
      refine thenQ.normal ?_
      refine SX.ret ?_
      refine blockQ.ret ?_
      refine thenQ.ret ?_
      refine thenQ.ret ?_
      refine blockQ.ret ?_
      refine thenQ.ret ?_
      refine retQ.one (ResAt.tmp rfl) ?_
      exact congrArg (Value.int .i64) (idxF_some (by omega) c16 hall).symm
    · refine SX.skip ?_
      refine blockQ.normal ?_
      refine thenQ.normal ?_
      refine SX.region ?_
      refine SXL.add rfl rfl (by omega) ?_
      refine SXL.move rfl ?_
      refine SXL.nil ?_
      refine thenQ.normal ?_
      refine ⟨k + 1, Meets.mk _ ⟨rfl, trivial⟩ ⟨rfl, rfl, rfl, rfl, trivial⟩ rfl, ?_, (by omega)⟩
      refine ⟨by omega, fun i hi => ?_⟩
      by_cases e : i = k
      · subst e; exact c16
      · exact hall i (by omega)
  · refine SX.exit ?_
    refine thenQ.exit ?_
    refine thenQ.exit ?_
    refine blockQ.exit ?_
    refine thenQ.normal ?_
    refine SX.seq ?_
    refine SX.region ?_
    refine SXL.assign rfl ?_
    refine SXL.nil ?_
    refine thenQ.normal ?_
    refine SX.ret ?_
    refine retQ.one (ResAt.tmp rfl) ?_
    exact congrArg (Value.int .i64) (idxF_none fun i hi => hall i (by omega)).symm
theorem containsFuncInts (l : List Int) (ao : Option Addr) (c : Nat) (F : Nat) (first capt : List Value) (p : Nat → Prop) [DecidablePred p] (hF : fnOk Tryd.prog F = true) (hmx : l.length ≤ 1000000) (w : World) (h : RowsAt w ao 1 (ones l)) (hc : ∀ k, k < l.length → ∀ w', Below w.heap.size w w' → CallsR Tryd.prog F (first ++ [.int .i64 (l.getD k 0)] ++ capt) w' (fun v _ => v = .bool (decide (p k)))) :
    CallsR Tryd.prog 119 [.slice ao l.length c, .func (.func F) ⟨first⟩ ⟨capt⟩] w (fun v _ => v = .bool (decide (0 ≤ idxF p l.length))) := by
  refine CallsR.of_SX (n := 9) (rs := [.tmp 4]) Tryd.func119 rfl rfl rfl rfl ?_
  show SX _ _ _ ⟨[(0, .slice ao l.length c), (1, .func (.func F) ⟨first⟩ ⟨capt⟩)], [], []⟩
  refine SX.seq ?_
  refine SX.region ?_
  refine SXL.assign rfl ?_
  refine SXL.nil ?_
  refine thenQ.normal ?_
  refine SX.seq ?_
  refine SX.region ?_
  refine SXL.move rfl ?_
  refine SXL.move rfl ?_
  refine SXL.call1 (.int .i64 (idxF p l.length)) fn_131 rfl (fun w hI => indexFuncInts l ao c F first capt p hF hmx w (h.inv hI) (fun k hk w' hb => hc k hk w' (belowT hI hb))) ?_
  refine SXL.geq rfl rfl ?_
  refine SXL.assign rfl ?_
  refine SXL.nil ?_
  refine thenQ.normal ?_
  refine SX.ret ?_
  refine retQ.one (ResAt.tmp rfl) ?_
  first | rfl | assumption
theorem indexFuncLines (s : Sp) (ao : Option Addr) (c : Nat) (F : Nat) (first capt : List Value) (p : Nat → Prop) [DecidablePred p] (hF : fnOk Tryd.prog F = true) (hmx : s.book.length ≤ 1000000) (w : World) (h : RowsAt w ao 5 (s.book.map Ln.cells)) (hc : ∀ k, k < s.book.length → ∀ w', Below w.heap.size w w' → CallsR Tryd.prog F (first ++ [.agg ⟨(s.book.getD k default).cells⟩] ++ capt) w' (fun v _ => v = .bool (decide (p k)))) :
    CallsR Tryd.prog 160 [.slice ao s.book.length c, .func (.func F) ⟨first⟩ ⟨capt⟩] w (fun v _ => v = .int .i64 (idxF p s.book.length)) := by
  refine CallsR.of_SX (n := 19) (rs := [.tmp 4]) Tryd.func160 rfl rfl rfl rfl ?_
  show SX _ _ _ ⟨[(0, .slice ao s.book.length c), (1, .func (.func F) ⟨first⟩ ⟨capt⟩)], [], []⟩
  refine SX.seq ?_
  refine SX.region ?_
  refine SXL.assign rfl ?_
  refine SXL.nil ?_
  refine thenQ.normal ?_
  refine SX.seq ?_
  refine SX.seq ?_
  refine SX.region ?_
  refine SXL.move rfl ?_
  refine SXL.len is_24 rfl ?_
  refine SXL.move rfl ?_
  refine SXL.nil ?_
  refine thenQ.normal ?_
  refine SX.block ?_
  refine SX.loopG (α := Nat) [0, 1, 4, 7] rfl (fun k => [(8, .int .i64 ((k : Int)))]) (fun k => []) (fun k => k ≤ s.book.length ∧ ∀ i, i < k → ¬p i) (fun k => s.book.length - k) 0 ⟨Nat.zero_le _, fun _ h => absurd h (Nat.not_lt_zero _)⟩ ⟨rfl, trivial⟩ rfl ?_
  rintro k ⟨hk, hall⟩
  refine SX.seq ?_
  refine SX.region ?_
  refine SXL.lss rfl rfl ?_
  refine SXL.nil ?_
  refine thenQ.normal ?_
  refine SX.seq ?_
  refine SX.condP rfl (fun c9 => ?_) (fun c9 => ?_)
  · refine SX.skip ?_
    refine thenQ.normal ?_
    refine SX.seq ?_
    refine SX.block ?_
    refine SX.seq ?_
    refine SX.region ?_
    refine SXL.move rfl ?_
    refine SXL.assign rfl ?_
    refine SXL.nil ?_
    refine thenQ.normal ?_
    refine SX.seq ?_
    obtain ⟨b, o, ha, hm⟩ := h.get (i := k) (r := (s.book.getD k default).cells) (by have hk2 : k < s.book.length := (by omega); simp [hk2])
    refine SX.region ?_
    refine SXL.move rfl ?_
    refine SXL.move rfl ?_
    refine SXL.move rfl ?_
    refine SXL.indexR el_24 rfl rfl ha (by omega) ?_
    refine SXL.loadN sh_61 rfl (hm _) rfl ?_
    refine SXL.call1V (.bool (decide (p k))) hF rfl rfl (fun w hI => hc k (by omega) _ hI.below) ?_
    refine SXL.nil ?_
    refine thenQ.normal ?_
    refine SX.condP rfl (fun c16 => ?_) (fun c16 => ?_)
    · refine SX.seq ?_
      refine SX.region ?_
      refine SXL.move rfl ?_
      refine SXL.assign rfl ?_
      refine SXL.nil ?_
      refine thenQ.normal ?_
      refine SX.ret ?_
      refine blockQ.ret ?_
      refine thenQ.ret ?_
      refine thenQ.ret ?_
      refine blockQ.ret ?_
      refine thenQ.ret ?_
      refine retQ.one (ResAt.tmp rfl) ?_
      exact congrArg (Value.int .i64) (idxF_some (by omega) c16 hall).symm
    · refine SX.skip ?_
      refine blockQ.normal ?_
      refine thenQ.normal ?_
      refine SX.region ?_
      refine SXL.add rfl rfl (by omega) ?_
      refine SXL.move rfl ?_
      refine SXL.nil ?_
      refine thenQ.normal ?_
      refine ⟨k + 1, Meets.mk _ ⟨rfl, trivial⟩ ⟨rfl, rfl, rfl, rfl, trivial⟩ rfl, ?_, (by omega)⟩
      refine ⟨by omega, fun i hi => ?_⟩
      by_cases e : i = k
      · subst e; exact c16
      · exact hall i (by omega)
  · refine SX.exit ?_
    refine thenQ.exit ?_
    refine thenQ.exit ?_
    refine blockQ.exit ?_
    refine thenQ.normal ?_
    refine SX.seq ?_
    refine SX.region ?_
    refine SXL.assign rfl ?_
    refine SXL.nil ?_
    refine thenQ.normal ?_
    refine SX.ret ?_
    refine retQ.one (ResAt.tmp rfl) ?_
    exact congrArg (Value.int .i64) (idxF_none fun i hi => hall i (by omega)).symm
theorem containsFuncLines (s : Sp) (ao : Option Addr) (c : Nat) (F : Nat) (first capt : List Value) (p : Nat → Prop) [DecidablePred p] (hF : fnOk Tryd.prog F = true) (hmx : s.book.length ≤ 1000000) (w : World) (h : RowsAt w ao 5 (s.book.map Ln.cells)) (hc : ∀ k, k < s.book.length → ∀ w', Below w.heap.size w w' → CallsR Tryd.prog F (first ++ [.agg ⟨(s.book.getD k default).cells⟩] ++ capt) w' (fun v _ => v = .bool (decide (p k)))) :
    CallsR Tryd.prog 157 [.slice ao s.book.length c, .func (.func F) ⟨first⟩ ⟨capt⟩] w (fun v _ => v = .bool (decide (0 ≤ idxF p s.book.length))) := by
  refine CallsR.of_SX (n := 9) (rs := [.tmp 4]) Tryd.func157 rfl rfl rfl rfl ?_
  show SX _ _ _ ⟨[(0, .slice ao s.book.length c), (1, .func (.func F) ⟨first⟩ ⟨capt⟩)], [], []⟩
  refine SX.seq ?_
  refine SX.region ?_
  refine SXL.assign rfl ?_
  refine SXL.nil ?_
  refine thenQ.normal ?_
  refine SX.seq ?_
  refine SX.region ?_
  refine SXL.move rfl ?_
  refine SXL.move rfl ?_
  refine SXL.call1 (.int .i64 (idxF p s.book.length)) fn_160 rfl (fun w hI => indexFuncLines s ao c F first capt p hF hmx w (h.inv hI) (fun k hk w' hb => hc k hk w' (belowT hI hb))) ?_
  refine SXL.geq rfl rfl ?_
  refine SXL.assign rfl ?_
  refine SXL.nil ?_
  refine thenQ.normal ?_
  refine SX.ret ?_
  refine retQ.one (ResAt.tmp rfl) ?_
  first | rfl | assumption
theorem in1c_any (n lo hi : Int) (b3 b4 : Nat) (w : World) (h3 : w.cell? ⟨b3, 0, none⟩ = some (.int .i64 lo)) (h4 : w.cell? ⟨b4, 0, none⟩ = some (.int .i64 hi)) :
    CallsR Tryd.prog 120 [.int .i64 n, .pointer (some ⟨b3, 0, none⟩), .pointer (some ⟨b4, 0, none⟩)] w (fun v _ => v = .bool (decide (n < lo ∨ hi < n))) := by
  refine CallsR.of_SX (n := 13) (rs := [.tmp 4]) Tryd.func120 rfl rfl rfl rfl ?_
  show SX _ _ _ ⟨[(0, .int .i64 n), (1, .pointer (some ⟨b3, 0, none⟩)), (2, .pointer (some ⟨b4, 0, none⟩))], [], []⟩
  refine SX.seq ?_
  refine SX.region ?_
  refine SXL.assign rfl ?_
  refine SXL.nil ?_
  refine thenQ.normal ?_
  refine SX.seq ?_
  refine SX.region ?_
  refine SXL.move rfl ?_
  refine SXL.load1 sh_3 rfl (Mem.out1 h3) ?_
  refine SXL.lss rfl rfl ?_
  refine SXL.move rfl ?_
  apply SXL.orG 3
  case hl => exact rfl
  case hd => exact rfl
  case hg => exact rfl
  case ht =>
    intro g1
    refine SXL.pass rfl rfl rfl ?_
    refine SXL.pass rfl rfl rfl ?_
    refine SXL.pass rfl rfl rfl ?_
    exact SXL.nil (segQ.mk (.skip rfl (.skip rfl (.skip rfl (.skip rfl (EnvSub.refl _))))) rfl rfl rfl)
  case hf =>
    intro g1
    refine SXL.move rfl ?_
    refine SXL.load1 sh_3 rfl (Mem.out1 h4) ?_
    refine SXL.gtr rfl rfl ?_
    exact SXL.nil (segQ.mk (.skip rfl (.skip rfl (.skip rfl (.skip rfl (EnvSub.refl _))))) rfl rfl ⟨rfl, rfl⟩)
  refine SXL.assign rfl ?_
  refine SXL.nil ?_
  refine thenQ.normal ?_
  refine SX.ret ?_
  refine retQ.one (ResAt.tmp rfl) ?_
  first | rfl | assumption
theorem in_any (l : List Int) (lo hi : Int) (ao : Option Addr) (c : Nat) (hmx : l.length ≤ 1000000) (w : World) (h : RowsAt w ao 1 (ones l)) :
    CallsR Tryd.prog 78 [.int .i64 lo, .int .i64 hi, .slice ao l.length c] w (fun v _ => v = .bool (decide (∀ x ∈ l, Wi x lo hi))) := by
  refine CallsR.of_SX (n := 11) (rs := [.tmp 6]) Tryd.func78 rfl rfl rfl rfl ?_
  show SX _ _ _ ⟨[(0, .int .i64 lo), (1, .int .i64 hi), (2, .slice ao l.length c)], [], []⟩
  refine SX.seq ?_
  refine SX.region ?_
  refine SXL.box rfl rfl ?_; intro b0
  refine SXL.box rfl rfl ?_; intro b1
  refine SXL.assign rfl ?_
  refine SXL.nil ?_
  refine thenQ.normal ?_
  refine SX.seq ?_
  refine SX.region ?_
  refine SXL.move rfl ?_
  refine SXL.makeFunc rfl rfl ?_
  refine SXL.call1 (.bool (decide (0 ≤ idxF (fun k => l.getD k 0 < lo ∨ hi < l.getD k 0) l.length))) fn_119 rfl (fun w hI => containsFuncInts l ao c 120 [] [.pointer (some ⟨b0, 0, none⟩), .pointer (some ⟨b1, 0, none⟩)] (fun k => l.getD k 0 < lo ∨ hi < l.getD k 0) fn_120 hmx w (h.inv hI) (fun k hk w' hb => in1c_any _ lo hi b0 b1 w' (ownCell (hI.ext hb) (i := 0) rfl rfl) (ownCell (hI.ext hb) (i := 1) rfl rfl))) ?_
  refine SXL.not rfl ?_
  refine SXL.assign rfl ?_
  refine SXL.nil ?_
  refine thenQ.normal ?_
  refine SX.ret ?_
  refine retQ.one (ResAt.tmp rfl) ?_
  exact congrArg Value.bool (decide_eq_decide.2 (by rw [idxF_nonneg]; exact in_iff l lo hi))
theorem in1_own {w0 w : World} {own : X.Own} (hI : Inv w0 own w) (i : Nat) {b : Nat} (x lo hi : Int) {E : TypeId} {fz : Nat × Nat} (he : own[i]? = some (b, .cells ⟨ints [x]⟩ E fz)) :
    CallsR Tryd.prog 78 [.int .i64 lo, .int .i64 hi, .slice (some ⟨b, 0, none⟩) 1 1] w (fun v _ => v = .bool (decide (Wi x lo hi))) :=
  (in_any [x] lo hi _ 1 (by simp) w (ownOnes hI [x] he)).iff (by simp)
theorem in2_own {w0 w : World} {own : X.Own} (hI : Inv w0 own w) (i : Nat) {b : Nat} (x y lo hi : Int) {E : TypeId} {fz : Nat × Nat} (he : own[i]? = some (b, .cells ⟨ints [x, y]⟩ E fz)) :
    CallsR Tryd.prog 78 [.int .i64 lo, .int .i64 hi, .slice (some ⟨b, 0, none⟩) 2 2] w (fun v _ => v = .bool (decide (Wi x lo hi ∧ Wi y lo hi))) :=
  (in_any [x, y] lo hi _ 2 (by simp) w (ownOnes hI [x, y] he)).iff (by simp)
theorem span_any (a b lo hi : Int) (w : World) :
    CallsR Tryd.prog 121 [.agg ⟨[.int .i64 a, .int .i64 b]⟩, .int .i64 lo, .int .i64 hi] w (fun v _ => v = .bool (decide (Spn a b lo hi))) := by
  refine CallsR.of_SX (n := 22) (rs := [.tmp 6]) Tryd.func121 rfl rfl rfl rfl ?_
  show SX _ _ _ ⟨[(0, .agg ⟨[.int .i64 a, .int .i64 b]⟩), (1, .int .i64 lo), (2, .int .i64 hi)], [], []⟩
  refine SX.seq ?_
  refine SX.region ?_
  refine SXL.box rfl rfl ?_; intro b0
  refine SXL.assign rfl ?_
  refine SXL.nil ?_
  refine thenQ.normal ?_
  refine SX.seq ?_
  refine SX.region ?_
  refine SXL.move rfl ?_
  refine SXL.move rfl ?_
  refine SXL.fieldAddr fp_23_0 rfl ?_
  refine SXL.load1o 0 sh_3 rfl rfl rfl ?_
  refine SXL.fieldAddr fp_23_1 rfl ?_
  refine SXL.load1o 0 sh_3 rfl rfl rfl ?_
  refine SXL.buildSlice et_35 zp_3 rfl rfl rfl rfl ?_; intro b1
  refine SXL.call1 (.bool (decide (Wi (a) (lo) (hi) ∧ Wi (b) (lo) (hi)))) fn_78 rfl (fun w hI => in2_own hI 1 (a) (b) (lo) (hi) rfl) ?_
  refine SXL.move rfl ?_
  apply SXL.andG 5
  case hl => exact rfl
  case hd => exact rfl
  case hg => exact rfl
  case ht =>
    intro g1
    refine SXL.fieldAddr fp_23_0 rfl ?_
    refine SXL.load1o 0 sh_3 rfl rfl rfl ?_
    refine SXL.fieldAddr fp_23_1 rfl ?_
    refine SXL.load1o 0 sh_3 rfl rfl rfl ?_
    refine SXL.leq rfl rfl ?_
    exact SXL.nil (segQ.mk (.skip rfl (.skip rfl (.skip rfl (.skip rfl (.skip rfl (.skip rfl (EnvSub.refl _))))))) rfl rfl ⟨rfl, rfl⟩)
  case hf =>
    intro g1
    refine SXL.pass rfl rfl rfl ?_
    refine SXL.pass rfl rfl rfl ?_
    refine SXL.pass rfl rfl rfl ?_
    refine SXL.pass rfl rfl rfl ?_
    refine SXL.pass rfl rfl rfl ?_
    exact SXL.nil (segQ.mk (.skip rfl (.skip rfl (.skip rfl (.skip rfl (.skip rfl (.skip rfl (EnvSub.refl _))))))) rfl rfl rfl)
  refine SXL.assign rfl ?_
  refine SXL.nil ?_
  refine thenQ.normal ?_
  refine SX.ret ?_
  refine retQ.one (ResAt.tmp rfl) ?_
  exact congrArg Value.bool (decide_eq_decide.2 (by omega))
theorem readable_any (x : Rd) (weeks : Int) (hw : -9223372036854775807 ≤ weeks ∧ weeks ≤ 9223372036854775807) (w : World) :
    CallsR Tryd.prog 80 [.agg ⟨x.cells⟩, .int .i64 weeks] w (fun v _ => v = .bool (decide (RdP x weeks))) := by
  refine CallsR.of_SX (n := 34) (rs := [.tmp 4]) Tryd.func80 rfl rfl rfl rfl ?_
  show SX _ _ _ ⟨[(0, .agg ⟨x.cells⟩), (1, .int .i64 weeks)], [], []⟩
  refine SX.seq ?_
  refine SX.region ?_
  refine SXL.box rfl rfl ?_; intro b0
  refine SXL.assign rfl ?_
  refine SXL.nil ?_
  refine thenQ.normal ?_
  refine SX.seq ?_
  refine SX.region ?_
  refine SXL.fieldAddr fp_54_0 rfl ?_
  refine SXL.load1o 0 sh_3 rfl rfl rfl ?_
  refine SXL.buildSlice et_35 zp_3 rfl rfl rfl rfl ?_; intro b1
  refine SXL.call1 (.bool (decide (Wi (x.num) (1) (9999)))) fn_78 rfl (fun w hI => in1_own hI 1 (x.num) (1) (9999) rfl) ?_
  refine SXL.move rfl ?_
  apply SXL.andG 6
  case hl => exact rfl
  case hd => exact rfl
  case hg => exact rfl
  case ht =>
    intro g1
    refine SXL.move rfl ?_
    refine SXL.sub rfl rfl (by omega) ?_
    refine SXL.fieldAddr fp_54_1 rfl ?_
    refine SXL.load1o 0 sh_3 rfl rfl rfl ?_
    refine SXL.buildSlice et_35 zp_3 rfl rfl rfl rfl ?_; intro b2
    refine SXL.call1 (.bool (decide (Wi (x.wk) (0) (weeks - 1)))) fn_78 rfl (fun w hI => in1_own hI 2 (x.wk) (0) (weeks - 1) rfl) ?_
    exact SXL.ownPre (SXL.nil (segQ.mk (.skip rfl (.skip rfl (.skip rfl (.skip rfl (.skip rfl (.skip rfl (.skip rfl (EnvSub.refl _)))))))) rfl rfl ⟨rfl, rfl⟩)) rfl
  case hf =>
    intro g1
    refine SXL.pass rfl rfl rfl ?_
    refine SXL.pass rfl rfl rfl ?_
    refine SXL.pass rfl rfl rfl ?_
    refine SXL.pass rfl rfl rfl ?_
    refine SXL.pass rfl rfl rfl ?_
    refine SXL.pass rfl rfl rfl ?_
    exact SXL.nil (segQ.mk (.skip rfl (.skip rfl (.skip rfl (.skip rfl (.skip rfl (.skip rfl (.skip rfl (EnvSub.refl _)))))))) rfl rfl rfl)
  refine SXL.move rfl ?_
  apply SXL.andG 4
  case hl => exact rfl
  case hd => exact rfl
  case hg => exact rfl
  case ht =>
    intro g2
    refine SXL.fieldAddr fp_54_2 rfl ?_
    refine SXL.load1o 0 sh_3 rfl rfl rfl ?_
    refine SXL.buildSlice et_35 zp_3 rfl rfl rfl rfl ?_; intro b2
    refine SXL.call1 (.bool (decide (Wi (x.bu) (1) (40)))) fn_78 rfl (fun w hI => in1_own hI 2 (x.bu) (1) (40) rfl) ?_
    exact SXL.ownPre (SXL.nil (segQ.mk (.skip rfl (.skip rfl (.skip rfl (.skip rfl (.skip rfl (EnvSub.refl _)))))) rfl rfl ⟨rfl, rfl⟩)) rfl
  case hf =>
    intro g2
    refine SXL.pass rfl rfl rfl ?_
    refine SXL.pass rfl rfl rfl ?_
    refine SXL.pass rfl rfl rfl ?_
    refine SXL.pass rfl rfl rfl ?_
    exact SXL.nil (segQ.mk (.skip rfl (.skip rfl (.skip rfl (.skip rfl (.skip rfl (EnvSub.refl _)))))) rfl rfl rfl)
  refine SXL.move rfl ?_
  apply SXL.andG 3
  case hl => exact rfl
  case hd => exact rfl
  case hg => exact rfl
  case ht =>
    intro g3
    refine SXL.fieldAddr fp_54_3 rfl ?_
    refine SXL.loadNo 0 sh_23 rfl rfl rfl ?_
    refine SXL.call1 (.bool (decide (Spn x.s0 x.s1 0 99))) fn_121 rfl (fun w hI => span_any _ _ _ _ _) ?_
    exact SXL.nil (segQ.mk (.skip rfl (.skip rfl (.skip rfl (.skip rfl (EnvSub.refl _))))) rfl rfl ⟨rfl, rfl⟩)
  case hf =>
    intro g3
    refine SXL.pass rfl rfl rfl ?_
    refine SXL.pass rfl rfl rfl ?_
    refine SXL.pass rfl rfl rfl ?_
    exact SXL.nil (segQ.mk (.skip rfl (.skip rfl (.skip rfl (.skip rfl (EnvSub.refl _))))) rfl rfl rfl)
  refine SXL.move rfl ?_
  apply SXL.andG 4
  case hl => exact rfl
  case hd => exact rfl
  case hg => exact rfl
  case ht =>
    intro g4
    refine SXL.fieldAddr fp_54_3 rfl ?_
    refine SXL.fieldAddr fp_23_1 rfl ?_
    refine SXL.load1o 0 sh_3 rfl rfl rfl ?_
    refine SXL.gtr rfl rfl ?_
    exact SXL.nil (segQ.mk (.skip rfl (.skip rfl (.skip rfl (.skip rfl (.skip rfl (EnvSub.refl _)))))) rfl rfl ⟨rfl, rfl⟩)
  case hf =>
    intro g4
    refine SXL.pass rfl rfl rfl ?_
    refine SXL.pass rfl rfl rfl ?_
    refine SXL.pass rfl rfl rfl ?_
    refine SXL.pass rfl rfl rfl ?_
    exact SXL.nil (segQ.mk (.skip rfl (.skip rfl (.skip rfl (.skip rfl (.skip rfl (EnvSub.refl _)))))) rfl rfl rfl)
  refine SXL.assign rfl ?_
  refine SXL.nil ?_
  refine thenQ.normal ?_
  refine SX.ret ?_
  refine retQ.one (ResAt.tmp rfl) ?_
  first | rfl | assumption
theorem chk0_any (s : Sp) (bo ro : Option Addr) (bc rc : Nat) (w : World) :
    CallsR Tryd.prog 153 [.agg ⟨[.int .i64 s.weeks, .int .i64 s.most, .int .i64 s.fall, .int .i64 s.a0, .int .i64 s.a1, .int .i64 s.w0, .int .i64 s.w1, (.slice bo s.book.length bc), (.slice ro s.reads.length rc)]⟩] w (fun v _ => v = .bool (decide (ckP s 0))) := by
  refine CallsR.of_SX (n := 15) (rs := [.tmp 2]) Tryd.func153 rfl rfl rfl rfl ?_
  show SX _ _ _ ⟨[(0, .agg ⟨[.int .i64 s.weeks, .int .i64 s.most, .int .i64 s.fall, .int .i64 s.a0, .int .i64 s.a1, .int .i64 s.w0, .int .i64 s.w1, (.slice bo s.book.length bc), (.slice ro s.reads.length rc)]⟩)], [], []⟩
  refine SX.seq ?_
  refine SX.region ?_
  refine SXL.box rfl rfl ?_; intro b0
  refine SXL.assign rfl ?_
  refine SXL.nil ?_
  refine thenQ.normal ?_
  refine SX.seq ?_
  refine SX.region ?_
  refine SXL.fieldAddr fp_27_0 rfl ?_
  refine SXL.load1o 0 sh_3 rfl rfl rfl ?_
  refine SXL.buildSlice et_35 zp_3 rfl rfl rfl rfl ?_; intro b1
  refine SXL.call1 (.bool (decide (Wi (s.weeks) (1) (10)))) fn_78 rfl (fun w hI => in1_own hI 1 (s.weeks) (1) (10) rfl) ?_
  refine SXL.move rfl ?_
  apply SXL.andG 6
  case hl => exact rfl
  case hd => exact rfl
  case hg => exact rfl
  case ht =>
    intro g1
    refine SXL.fieldAddr fp_27_1 rfl ?_
    refine SXL.load1o 0 sh_3 rfl rfl rfl ?_
    refine SXL.fieldAddr fp_27_2 rfl ?_
    refine SXL.load1o 0 sh_3 rfl rfl rfl ?_
    refine SXL.buildSlice et_35 zp_3 rfl rfl rfl rfl ?_; intro b2
    refine SXL.call1 (.bool (decide (Wi (s.most) (0) (100) ∧ Wi (s.fall) (0) (100)))) fn_78 rfl (fun w hI => in2_own hI 2 (s.most) (s.fall) (0) (100) rfl) ?_
    exact SXL.ownPre (SXL.nil (segQ.mk (.skip rfl (.skip rfl (.skip rfl (.skip rfl (.skip rfl (.skip rfl (.skip rfl (EnvSub.refl _)))))))) rfl rfl ⟨rfl, rfl⟩)) rfl
  case hf =>
    intro g1
    refine SXL.pass rfl rfl rfl ?_
    refine SXL.pass rfl rfl rfl ?_
    refine SXL.pass rfl rfl rfl ?_
    refine SXL.pass rfl rfl rfl ?_
    refine SXL.pass rfl rfl rfl ?_
    refine SXL.pass rfl rfl rfl ?_
    exact SXL.nil (segQ.mk (.skip rfl (.skip rfl (.skip rfl (.skip rfl (.skip rfl (.skip rfl (.skip rfl (EnvSub.refl _)))))))) rfl rfl rfl)
  refine SXL.assign rfl ?_
  refine SXL.nil ?_
  refine thenQ.normal ?_
  refine SX.ret ?_
  refine retQ.one (ResAt.tmp rfl) ?_
  first | rfl | assumption
theorem chk1_any (s : Sp) (bo ro : Option Addr) (bc rc : Nat) (w : World) :
    CallsR Tryd.prog 154 [.agg ⟨[.int .i64 s.weeks, .int .i64 s.most, .int .i64 s.fall, .int .i64 s.a0, .int .i64 s.a1, .int .i64 s.w0, .int .i64 s.w1, (.slice bo s.book.length bc), (.slice ro s.reads.length rc)]⟩] w (fun v _ => v = .bool (decide (ckP s 1))) := by
  refine CallsR.of_SX (n := 11) (rs := [.tmp 2]) Tryd.func154 rfl rfl rfl rfl ?_
  show SX _ _ _ ⟨[(0, .agg ⟨[.int .i64 s.weeks, .int .i64 s.most, .int .i64 s.fall, .int .i64 s.a0, .int .i64 s.a1, .int .i64 s.w0, .int .i64 s.w1, (.slice bo s.book.length bc), (.slice ro s.reads.length rc)]⟩)], [], []⟩
  refine SX.seq ?_
  refine SX.region ?_
  refine SXL.box rfl rfl ?_; intro b0
  refine SXL.assign rfl ?_
  refine SXL.nil ?_
  refine thenQ.normal ?_
  refine SX.seq ?_
  refine SX.region ?_
  refine SXL.fieldAddr fp_27_3 rfl ?_
  refine SXL.loadNo 0 sh_23 rfl rfl rfl ?_
  refine SXL.call1 (.bool (decide (Spn s.a0 s.a1 1 600))) fn_121 rfl (fun w hI => span_any _ _ _ _ _) ?_
  refine SXL.move rfl ?_
  apply SXL.andG 3
  case hl => exact rfl
  case hd => exact rfl
  case hg => exact rfl
  case ht =>
    intro g1
    refine SXL.fieldAddr fp_27_4 rfl ?_
    refine SXL.loadNo 0 sh_23 rfl rfl rfl ?_
    refine SXL.call1 (.bool (decide (Spn s.w0 s.w1 0 20))) fn_121 rfl (fun w hI => span_any _ _ _ _ _) ?_
    exact SXL.nil (segQ.mk (.skip rfl (.skip rfl (.skip rfl (.skip rfl (EnvSub.refl _))))) rfl rfl ⟨rfl, rfl⟩)
  case hf =>
    intro g1
    refine SXL.pass rfl rfl rfl ?_
    refine SXL.pass rfl rfl rfl ?_
    refine SXL.pass rfl rfl rfl ?_
    exact SXL.nil (segQ.mk (.skip rfl (.skip rfl (.skip rfl (.skip rfl (EnvSub.refl _))))) rfl rfl rfl)
  refine SXL.assign rfl ?_
  refine SXL.nil ?_
  refine thenQ.normal ?_
  refine SX.ret ?_
  refine retQ.one (ResAt.tmp rfl) ?_
  first | rfl | assumption
theorem chk2_any (s : Sp) (bo ro : Option Addr) (bc rc : Nat) (w : World) :
    CallsR Tryd.prog 155 [.agg ⟨[.int .i64 s.weeks, .int .i64 s.most, .int .i64 s.fall, .int .i64 s.a0, .int .i64 s.a1, .int .i64 s.w0, .int .i64 s.w1, (.slice bo s.book.length bc), (.slice ro s.reads.length rc)]⟩] w (fun v _ => v = .bool (decide (ckP s 2))) := by
  refine CallsR.of_SX (n := 13) (rs := [.tmp 2]) Tryd.func155 rfl rfl rfl rfl ?_
  show SX _ _ _ ⟨[(0, .agg ⟨[.int .i64 s.weeks, .int .i64 s.most, .int .i64 s.fall, .int .i64 s.a0, .int .i64 s.a1, .int .i64 s.w0, .int .i64 s.w1, (.slice bo s.book.length bc), (.slice ro s.reads.length rc)]⟩)], [], []⟩
  refine SX.seq ?_
  refine SX.region ?_
  refine SXL.box rfl rfl ?_; intro b0
  refine SXL.assign rfl ?_
  refine SXL.nil ?_
  refine thenQ.normal ?_
  refine SX.seq ?_
  refine SX.region ?_
  refine SXL.fieldAddr fp_27_5 rfl ?_
  refine SXL.load1o 0 sh_24 rfl rfl rfl ?_
  refine SXL.len is_24 rfl ?_
  refine SXL.leq rfl rfl ?_
  refine SXL.move rfl ?_
  apply SXL.andG 4
  case hl => exact rfl
  case hd => exact rfl
  case hg => exact rfl
  case ht =>
    intro g1
    refine SXL.fieldAddr fp_27_6 rfl ?_
    refine SXL.load1o 0 sh_25 rfl rfl rfl ?_
    refine SXL.len is_25 rfl ?_
    refine SXL.leq rfl rfl ?_
    exact SXL.nil (segQ.mk (.skip rfl (.skip rfl (.skip rfl (.skip rfl (.skip rfl (EnvSub.refl _)))))) rfl rfl ⟨rfl, rfl⟩)
  case hf =>
    intro g1
    refine SXL.pass rfl rfl rfl ?_
    refine SXL.pass rfl rfl rfl ?_
    refine SXL.pass rfl rfl rfl ?_
    refine SXL.pass rfl rfl rfl ?_
    exact SXL.nil (segQ.mk (.skip rfl (.skip rfl (.skip rfl (.skip rfl (.skip rfl (EnvSub.refl _)))))) rfl rfl rfl)
  refine SXL.assign rfl ?_
  refine SXL.nil ?_
  refine thenQ.normal ?_
  refine SX.ret ?_
  refine retQ.one (ResAt.tmp rfl) ?_
  first | rfl | assumption
theorem line_any (x : Ln) (weeks : Int) (b : Nat) (hw : Wi weeks 1 10) (w : World) (h : w.cell? ⟨b, 0, none⟩ = some (.int .i64 weeks)) :
    CallsR Tryd.prog 158 [.agg ⟨x.cells⟩, .pointer (some ⟨b, 0, none⟩)] w (fun v _ => v = .bool (decide (¬LnP x weeks))) := by
  refine CallsR.of_SX (n := 24) (rs := [.tmp 3]) Tryd.func158 rfl rfl rfl rfl ?_
  show SX _ _ _ ⟨[(0, .agg ⟨x.cells⟩), (1, .pointer (some ⟨b, 0, none⟩))], [], []⟩
  refine SX.seq ?_
  refine SX.region ?_
  refine SXL.box rfl rfl ?_; intro b0
  refine SXL.assign rfl ?_
  refine SXL.nil ?_
  refine thenQ.normal ?_
  refine SX.seq ?_
  refine SX.region ?_
  refine SXL.fieldAddr fp_61_0 rfl ?_
  refine SXL.loadNo 0 sh_23 rfl rfl rfl ?_
  refine SXL.call1 (.bool (decide (Spn x.r0 x.r1 0 20))) fn_121 rfl (fun w hI => span_any _ _ _ _ _) ?_
  refine SXL.not rfl ?_
  refine SXL.move rfl ?_
  apply SXL.orG 8
  case hl => exact rfl
  case hd => exact rfl
  case hg => exact rfl
  case ht =>
    intro g1
    refine SXL.pass rfl rfl rfl ?_
    refine SXL.pass rfl rfl rfl ?_
    refine SXL.pass rfl rfl rfl ?_
    refine SXL.pass rfl rfl rfl ?_
    refine SXL.pass rfl rfl rfl ?_
    refine SXL.pass rfl rfl rfl ?_
    refine SXL.pass rfl rfl rfl ?_
    refine SXL.pass rfl rfl rfl ?_
    exact SXL.nil (segQ.mk (.skip rfl (.skip rfl (.skip rfl (.skip rfl (.skip rfl (.skip rfl (.skip rfl (.skip rfl (.skip rfl (EnvSub.refl _)))))))))) rfl rfl rfl)
  case hf =>
    intro g1
    refine SXL.fieldAddr fp_27_0 rfl ?_
    refine SXL.load1 sh_3 rfl (Mem.out1 h) ?_
    refine SXL.sub rfl rfl (by omega) ?_
    refine SXL.fieldAddr fp_61_1 rfl ?_
    refine SXL.load1o 0 sh_3 rfl rfl rfl ?_
    refine SXL.buildSlice et_35 zp_3 rfl rfl rfl rfl ?_; intro b1
    refine SXL.call1 (.bool (decide (Wi (x.wk) (0) (weeks - 1)))) fn_78 rfl (fun w hI => in1_own hI 1 (x.wk) (0) (weeks - 1) rfl) ?_
    refine SXL.not rfl ?_
    exact SXL.ownPre (SXL.nil (segQ.mk (.skip rfl (.skip rfl (.skip rfl (.skip rfl (.skip rfl (.skip rfl (.skip rfl (.skip rfl (.skip rfl (EnvSub.refl _)))))))))) rfl rfl ⟨rfl, rfl⟩)) rfl
  refine SXL.move rfl ?_
  apply SXL.orG 4
  case hl => exact rfl
  case hd => exact rfl
  case hg => exact rfl
  case ht =>
    intro g2
    refine SXL.pass rfl rfl rfl ?_
    refine SXL.pass rfl rfl rfl ?_
    refine SXL.pass rfl rfl rfl ?_
    refine SXL.pass rfl rfl rfl ?_
    exact SXL.nil (segQ.mk (.skip rfl (.skip rfl (.skip rfl (.skip rfl (.skip rfl (EnvSub.refl _)))))) rfl rfl rfl)
  case hf =>
    intro g2
    refine SXL.fieldAddr fp_61_2 rfl ?_
    refine SXL.loadNo 0 sh_23 rfl rfl rfl ?_
    refine SXL.call1 (.bool (decide (Spn x.g0 x.g1 0 100))) fn_121 rfl (fun w hI => span_any _ _ _ _ _) ?_
    refine SXL.not rfl ?_
    exact SXL.nil (segQ.mk (.skip rfl (.skip rfl (.skip rfl (.skip rfl (.skip rfl (EnvSub.refl _)))))) rfl rfl ⟨rfl, rfl⟩)
  refine SXL.assign rfl ?_
  refine SXL.nil ?_
  refine thenQ.normal ?_
  refine SX.ret ?_
  refine retQ.one (ResAt.tmp rfl) ?_
  exact congrArg Value.bool (decide_eq_decide.2 (by unfold LnP Spn; omega))
theorem chk3_any (s : Sp) (bo ro : Option Addr) (bc rc : Nat) (hw : Wi s.weeks 1 10) (hb : s.book.length ≤ 1000000) (w : World) (hs : SpAt w s bo ro) :
    CallsR Tryd.prog 156 [.agg ⟨[.int .i64 s.weeks, .int .i64 s.most, .int .i64 s.fall, .int .i64 s.a0, .int .i64 s.a1, .int .i64 s.w0, .int .i64 s.w1, (.slice bo s.book.length bc), (.slice ro s.reads.length rc)]⟩] w (fun v _ => v = .bool (decide (ckP s 3))) := by
  refine CallsR.of_SX (n := 8) (rs := [.tmp 2]) Tryd.func156 rfl rfl rfl rfl ?_
  show SX _ _ _ ⟨[(0, .agg ⟨[.int .i64 s.weeks, .int .i64 s.most, .int .i64 s.fall, .int .i64 s.a0, .int .i64 s.a1, .int .i64 s.w0, .int .i64 s.w1, (.slice bo s.book.length bc), (.slice ro s.reads.length rc)]⟩)], [], []⟩
  refine SX.seq ?_
  refine SX.region ?_
  refine SXL.box rfl rfl ?_; intro b0
  refine SXL.assign rfl ?_
  refine SXL.nil ?_
  refine thenQ.normal ?_
  refine SX.seq ?_
  refine SX.region ?_
  refine SXL.fieldAddr fp_27_5 rfl ?_
  refine SXL.load1o 0 sh_24 rfl rfl rfl ?_
  refine SXL.makeFunc rfl rfl ?_
  refine SXL.call1 (.bool (decide (0 ≤ idxF (fun k => ¬LnP (s.book.getD k default) s.weeks) s.book.length))) fn_157 rfl (fun w hI => containsFuncLines s bo bc 158 [] [.pointer (some ⟨b0, 0, none⟩)] (fun k => ¬LnP (s.book.getD k default) s.weeks) fn_158 hb w (hs.book.inv hI) (fun k hk w' hb => line_any _ s.weeks b0 hw w' (ownCell (hI.ext hb) (i := 0) rfl rfl))) ?_
  refine SXL.not rfl ?_
  refine SXL.assign rfl ?_
  refine SXL.nil ?_
  refine thenQ.normal ?_
  refine SX.ret ?_
  refine retQ.one (ResAt.tmp rfl) ?_
  exact congrArg Value.bool (decide_eq_decide.2 (by rw [idxF_nonneg]; exact book_iff s))
theorem chk4_any (s : Sp) (bo ro : Option Addr) (bc rc : Nat) (hw : Wi s.weeks 1 10) (hr : s.reads.length ≤ 1000000) (w : World) (hs : SpAt w s bo ro) :
    CallsR Tryd.prog 159 [.agg ⟨[.int .i64 s.weeks, .int .i64 s.most, .int .i64 s.fall, .int .i64 s.a0, .int .i64 s.a1, .int .i64 s.w0, .int .i64 s.w1, (.slice bo s.book.length bc), (.slice ro s.reads.length rc)]⟩] w (fun v _ => v = .bool (decide (ckP s 4))) := by
  refine CallsR.of_SX (n := 27) (rs := [.tmp 2]) Tryd.func159 rfl rfl rfl rfl ?_
  show SX _ _ _ ⟨[(0, .agg ⟨[.int .i64 s.weeks, .int .i64 s.most, .int .i64 s.fall, .int .i64 s.a0, .int .i64 s.a1, .int .i64 s.w0, .int .i64 s.w1, (.slice bo s.book.length bc), (.slice ro s.reads.length rc)]⟩)], [], []⟩
  refine SX.seq ?_
  refine SX.region ?_
  refine SXL.box rfl rfl ?_; intro b0
  refine SXL.assign rfl ?_
  refine SXL.nil ?_
  refine thenQ.normal ?_
  refine SX.seq ?_
  refine SX.region ?_
  refine SXL.assign rfl ?_
  refine SXL.nil ?_
  refine thenQ.normal ?_
  refine SX.seq ?_
  refine SX.seq ?_
  refine SX.region ?_
  refine SXL.fieldAddr fp_27_6 rfl ?_
  refine SXL.load1o 0 sh_25 rfl rfl rfl ?_
  refine SXL.len is_25 rfl ?_
  refine SXL.move rfl ?_
  refine SXL.nil ?_
  refine thenQ.normal ?_
  refine SX.block ?_
  refine SX.loopG (α := Nat) [1, 2, 7, 8] rfl (fun k => [(9, .int .i64 ((k : Int))), (3, .int .i64 ((lastN s k)))]) (fun k => []) (fun k => k ≤ s.reads.length ∧ ∀ i, i < k → RdP (s.reads.getD i default) s.weeks ∧ lastN s i < (s.reads.getD i default).num) (fun k => s.reads.length - k) 0 ⟨Nat.zero_le _, fun _ h => absurd h (Nat.not_lt_zero _)⟩ ⟨rfl, rfl, trivial⟩ rfl ?_
  rintro k ⟨hk, hall⟩
  refine SX.seq ?_
  refine SX.region ?_
  refine SXL.lss rfl rfl ?_
  refine SXL.nil ?_
  refine thenQ.normal ?_
  refine SX.seq ?_
  refine SX.condP rfl (fun c10 => ?_) (fun c10 => ?_)
  · refine SX.skip ?_
    refine thenQ.normal ?_
    refine SX.seq ?_
    refine SX.block ?_
    refine SX.seq ?_
    obtain ⟨b, o, ha, hm⟩ := hs.readD (i := k) (by omega)
    refine SX.region ?_
    refine SXL.indexR el_25 rfl rfl ha (by omega) ?_
    refine SXL.loadN sh_54 rfl (hm _) rfl ?_
    refine SXL.alloc zp_54 ?_; intro b1
    refine SXL.store 1 sz_54 rfl rfl rfl rfl rfl rfl ?_
    refine SXL.nil ?_
    refine thenQ.normal ?_
    refine SX.seq ?_
    refine SX.seq ?_
    refine SX.region ?_
    refine SXL.fieldAddr fp_54_0 rfl ?_
    refine SXL.load1o 1 sh_3 rfl rfl rfl ?_
    refine SXL.move rfl ?_
    refine SXL.leq rfl rfl ?_
    refine SXL.move rfl ?_
    apply SXL.orG 5
    case hl => exact rfl
    case hd => exact rfl
    case hg => exact rfl
    case ht =>
      intro c23
      refine SXL.pass rfl rfl rfl ?_
      refine SXL.pass rfl rfl rfl ?_
      refine SXL.pass rfl rfl rfl ?_
      refine SXL.pass rfl rfl rfl ?_
      refine SXL.pass rfl rfl rfl ?_
      exact SXL.nil (segQ.mk (.skip rfl (.skip rfl (.skip rfl (.skip rfl (.skip rfl (.skip rfl (EnvSub.refl _))))))) rfl rfl rfl)
    case hf =>
      intro c23
      refine SXL.loadNo 1 sh_54 rfl rfl rfl ?_
      refine SXL.fieldAddr fp_27_0 rfl ?_
      refine SXL.load1o 0 sh_3 rfl rfl rfl ?_
      refine SXL.call1 (.bool (decide (RdP (s.reads.getD k default) s.weeks))) fn_80 rfl (fun w hI => readable_any _ _ (by omega) _) ?_
      refine SXL.not rfl ?_
      exact SXL.nil (segQ.mk (.skip rfl (.skip rfl (.skip rfl (.skip rfl (.skip rfl (.skip rfl (EnvSub.refl _))))))) rfl rfl ⟨rfl, rfl⟩)
    refine SXL.nil ?_
    refine thenQ.normal ?_
    refine SX.condP rfl (fun c23 => ?_) (fun c23 => ?_)
    · refine SX.seq ?_
      refine SX.region ?_
      refine SXL.assign rfl ?_
      refine SXL.nil ?_
      refine thenQ.normal ?_
      refine SX.ret ?_
      refine thenQ.ret ?_
      refine blockQ.ret ?_
      refine thenQ.ret ?_
      refine thenQ.ret ?_
      refine blockQ.ret ?_
      refine thenQ.ret ?_
      refine retQ.one (ResAt.tmp rfl) ?_
      exact congrArg Value.bool (decide_eq_false (by intro h; have := (reads_iff s).1 h k (by omega); omega)).symm
    · refine SX.skip ?_
      refine thenQ.normal ?_
      refine SX.region ?_
      refine SXL.fieldAddr fp_54_0 rfl ?_
      refine SXL.load1o 1 sh_3 rfl rfl rfl ?_
      refine SXL.assign rfl ?_
      refine SXL.nil ?_
      refine blockQ.normal ?_
      refine thenQ.normal ?_
      refine SX.region ?_
      refine SXL.add rfl rfl (by omega) ?_
      refine SXL.move rfl ?_
      refine SXL.nil ?_
      refine thenQ.normal ?_
      refine ⟨k + 1, Meets.mk _ ⟨rfl, rfl, trivial⟩ ⟨rfl, rfl, rfl, rfl, trivial⟩ rfl, ?_, (by omega)⟩
      refine ⟨by omega, fun i hi => ?_⟩
      by_cases e : i = k
      · subst e; omega
      · exact hall i (by omega)
  · refine SX.exit ?_
    refine thenQ.exit ?_
    refine thenQ.exit ?_
    refine blockQ.exit ?_
    refine thenQ.normal ?_
    refine SX.seq ?_
    refine SX.region ?_
    refine SXL.assign rfl ?_
    refine SXL.nil ?_
    refine thenQ.normal ?_
    refine SX.ret ?_
    refine retQ.one (ResAt.tmp rfl) ?_
    exact congrArg Value.bool (decide_eq_true ((reads_iff s).2 fun i hi => hall i (by omega))).symm
theorem chk_any (s : Sp) (bo ro : Option Addr) (bc rc : Nat) (k : Nat) (hk : k < 5) (hall : ∀ i, i < k → ckP s i) (hb : s.book.length ≤ 1000000) (hr : s.reads.length ≤ 1000000) (w : World) (hs : SpAt w s bo ro) :
    CallsR Tryd.prog (chkId k) [.agg ⟨[.int .i64 s.weeks, .int .i64 s.most, .int .i64 s.fall, .int .i64 s.a0, .int .i64 s.a1, .int .i64 s.w0, .int .i64 s.w1, (.slice bo s.book.length bc), (.slice ro s.reads.length rc)]⟩] w (fun v _ => v = .bool (decide (ckP s k))) := by
  match k, hk with
  | 0, _ => exact chk0_any s bo ro bc rc w
  | 1, _ => exact chk1_any s bo ro bc rc w
  | 2, _ => exact chk2_any s bo ro bc rc w
  | 3, _ => exact chk3_any s bo ro bc rc (hall 0 (by omega)).1 hb w hs
  | 4, _ => exact chk4_any s bo ro bc rc (hall 0 (by omega)).1 hr w hs
theorem fn_chk (k : Nat) (hk : k < 5) : fnOk Tryd.prog (chkId k) = true := by
  match k, hk with
  | 0, _ => exact fn_153
  | 1, _ => exact fn_154
  | 2, _ => exact fn_155
  | 3, _ => exact fn_156
  | 4, _ => exact fn_159
end Go.Proofs.YtknflipongbngaaDoor

/- The walks of functions. -/
namespace Go.Proofs.YtknflipongbngaaDoor
open Go.X Go.S Go.RowKit
end Go.Proofs.YtknflipongbngaaDoor

/- Spans in rows; what a rain leaves, handed back. -/
namespace Go.S
open Go Go.X Go.RowKit
def pairs (M : List Int) (n : Nat) : List (List Value) := (List.range n).map fun i => [.int .i64 (Lo M i), .int .i64 (Hi M i)]
@[simp] theorem length_pairs (M : List Int) (n : Nat) : (pairs M n).length = n := by simp [pairs]
variable {w0 w : World} {own : X.Own}
/-- What a rain leaves, handed back: all that is told if there is no truth is that there is none. -/
structure AfterR (s : Sp) (L : List Int) (rain : Int) (v : Value) : Prop where
  ex : ∃ M : List Int, M.length = 20 ∧ (lvB s L rain → M = ilv (lvL s L rain)) ∧ v = .tuple ⟨[.agg ⟨ints M⟩, .bool (decide (lvB s L rain))]⟩
end Go.S
namespace Go.S
open Go Go.X
end Go.S

/- The walks of functions. -/
namespace Go.Proofs.YtknflipongbngaaDoor
open Go.X Go.S Go.RowKit
end Go.Proofs.YtknflipongbngaaDoor

/- The walks of functions. -/
namespace Go.Proofs.YtknflipongbngaaDoor
open Go.X Go.S Go.RowKit
/-- The iterator of the rains. -/
structure ItR (s : Sp) (bo ro : Option Addr) (bc rc : Nat) (R : List Int) (v : Value) (own : X.Own) : Prop where
  ex : ∃ b, v = .func (.func 117) ⟨[]⟩ ⟨[.pointer (some ⟨b, 0, none⟩)]⟩ ∧ own = [(b, .cells ⟨watC s bo ro bc rc R⟩ 117 (0, 0))]
end Go.Proofs.YtknflipongbngaaDoor

/- The calculus' rules: sums that may turn over. Nothing of the program stands here. -/
namespace Go.X
open Go Go.RowKit
section
variable {C : Cx} {Q : Post} {env : Env} {own : Own} {D : List Deferred} {ops : Array Oper} {rest : List Oper}
variable {d : Nat} {ty : TypeId} {pos : String} {aft : Array Edge} {g : Option (Nat × Bool)} {x y : Operand} {T T' : TypeId} {A B : Int}
end
end Go.X

/- What the package spring is asked, handed back. -/
namespace Go.S
open Go Go.X
def askE (s : Sp) (p : Prop) [Decidable p] (e : Int) : Int := if ¬SpP s then 10 else if ¬p then e else if TrueP s then 0 else 8
def outA (s : Sp) : List Int := outL s.weeks.toNat (lvsL s (baseL s) (rnsL s (baseL s)))
structure AskR (s : Sp) (bo ro : Option Addr) (bc rc : Nat) (p : Prop) [Decidable p] (e : Int) (v : Value) : Prop where
  ex : ∃ W O, W.length = 29 ∧ W.all isOne = true ∧ O.length = 20 ∧ v = .tuple ⟨[.agg ⟨W⟩, .agg ⟨ints O⟩, .int .i64 (askE s p e)]⟩ ∧ (SpP s → p → TrueP s → W = watC s bo ro bc rc (flL s) ∧ O = outA s)
end Go.S
namespace Go.S
open Go Go.X
end Go.S

/- The walks of functions. -/
namespace Go.Proofs.YtknflipongbngaaDoor
open Go.X Go.S Go.RowKit
end Go.Proofs.YtknflipongbngaaDoor

/- The walks of functions. -/
namespace Go.Proofs.YtknflipongbngaaDoor
open Go.X Go.S Go.RowKit
end Go.Proofs.YtknflipongbngaaDoor

/- The walks of functions. -/
namespace Go.Proofs.YtknflipongbngaaDoor
open Go.X Go.S Go.RowKit
end Go.Proofs.YtknflipongbngaaDoor

/- What the package spring reckons of weeks: the same. Nothing of Go stands here. -/
namespace Go.S
open Go Go.X
def cmpV (a b : Int) : Int := if a < b then -1 else if b < a then 1 else 0
theorem cmpV_neg {a b : Int} : cmpV a b < 0 ↔ a < b := by
  unfold cmpV
  split
  · simp_all
  · split <;> simp_all
/-- How wide what is told is, of all weeks together. -/
def widM (M : List Int) : Nat → Int
  | 0 => 0
  | k + 1 => widM M k + (Hi M k - Lo M k)
/-- The lists of what is left: the least of all, and where it first stands. -/
def leftsL (s : Sp) (k : Nat) : List Int := (List.range k).map (leftP s)
@[simp] theorem leftsL_len (s : Sp) (k : Nat) : (leftsL s k).length = k := by simp [leftsL]
end Go.S

/- The walks of functions. -/
namespace Go.Proofs.YtknflipongbngaaDoor
open Go.X Go.S Go.RowKit
theorem isNaN_any (a : Int) (w : World) :
    CallsR Tryd.prog 123 [.int .i64 a] w (fun v _ => v = .bool (decide (False))) := by
  refine CallsR.of_SX (n := 6) (rs := [.tmp 2]) Tryd.func123 rfl rfl rfl rfl ?_
  show SX _ _ _ ⟨[(0, .int .i64 a)], [], []⟩
  refine SX.seq ?_
  refine SX.region ?_
  refine SXL.assign rfl ?_
  refine SXL.nil ?_
  refine thenQ.normal ?_
  refine SX.seq ?_
  refine SX.region ?_
  refine SXL.move rfl ?_
  refine SXL.move rfl ?_
  refine SXL.neqI rfl rfl ?_
  refine SXL.assign rfl ?_
  refine SXL.nil ?_
  refine thenQ.normal ?_
  refine SX.ret ?_
  refine retQ.one (ResAt.tmp rfl) ?_
  exact congrArg Value.bool (decide_eq_decide.2 (by simp))
theorem compare_any (a b : Int) (w : World) :
    CallsR Tryd.prog 91 [.int .i64 a, .int .i64 b] w (fun v _ => v = .int .i64 (cmpV a b)) := by
  refine CallsR.of_SX (n := 20) (rs := [.tmp 4]) Tryd.func91 rfl rfl rfl rfl ?_
  show SX _ _ _ ⟨[(0, .int .i64 a), (1, .int .i64 b)], [], []⟩
  refine SX.seq ?_
  refine SX.region ?_
  refine SXL.assign rfl ?_
  refine SXL.nil ?_
  refine thenQ.normal ?_
  refine SX.seq ?_
  refine SX.region ?_
  refine SXL.move rfl ?_
  refine SXL.call1 (.bool (decide (False))) fn_123 rfl (fun w hI => isNaN_any _ _) ?_
  refine SXL.assign rfl ?_
  refine SXL.nil ?_
  refine thenQ.normal ?_
  refine SX.seq ?_
  refine SX.region ?_
  refine SXL.move rfl ?_
  refine SXL.call1 (.bool (decide (False))) fn_123 rfl (fun w hI => isNaN_any _ _) ?_
  refine SXL.assign rfl ?_
  refine SXL.nil ?_
  refine thenQ.normal ?_
  refine SX.seq ?_
  refine SX.seq ?_
  refine SX.region ?_
  refine SXL.move rfl ?_
  refine SXL.nil ?_
  refine thenQ.normal ?_
  refine SX.condP rfl (fun c11 => ?_) (fun c11 => ?_)
  · exfalso; exact c11
  refine SX.skip ?_
  refine thenQ.normal ?_
  refine SX.seq ?_
  refine SX.seq ?_
  refine SX.region ?_
  refine SXL.move rfl ?_
  refine SXL.nil ?_
  refine thenQ.normal ?_
  refine SX.condP rfl (fun c13 => ?_) (fun c13 => ?_)
  · exfalso; exact c13
  refine SX.skip ?_
  refine thenQ.normal ?_
  refine SX.seq ?_
  refine SX.seq ?_
  refine SX.region ?_
  refine SXL.move rfl ?_
  refine SXL.move rfl ?_
  refine SXL.lss rfl rfl ?_
  refine SXL.nil ?_
  refine thenQ.normal ?_
  refine SX.condP rfl (fun c16 => ?_) (fun c16 => ?_)
  · refine SX.seq ?_
    refine SX.region ?_
    refine SXL.assign rfl ?_
    refine SXL.nil ?_
    refine thenQ.normal ?_
    refine SX.ret ?_
    refine thenQ.ret ?_
    refine retQ.one (ResAt.tmp rfl) ?_
    rw [cmpV, if_pos c16]
  · refine SX.skip ?_
    refine thenQ.normal ?_
    refine SX.seq ?_
    refine SX.seq ?_
    refine SX.region ?_
    refine SXL.move rfl ?_
    refine SXL.move rfl ?_
    refine SXL.gtr rfl rfl ?_
    refine SXL.nil ?_
    refine thenQ.normal ?_
    refine SX.condP rfl (fun c19 => ?_) (fun c19 => ?_)
    · refine SX.seq ?_
      refine SX.region ?_
      refine SXL.assign rfl ?_
      refine SXL.nil ?_
      refine thenQ.normal ?_
      refine SX.ret ?_
      refine thenQ.ret ?_
      refine retQ.one (ResAt.tmp rfl) ?_
      rw [cmpV, if_neg c16, if_pos c19]
    · refine SX.skip ?_
      refine thenQ.normal ?_
      refine SX.seq ?_
      refine SX.region ?_
      refine SXL.assign rfl ?_
      refine SXL.nil ?_
      refine thenQ.normal ?_
      refine SX.ret ?_
      refine retQ.one (ResAt.tmp rfl) ?_
      rw [cmpV, if_neg c16, if_neg c19]
theorem indexInts (l : List Int) (x : Int) (ao : Option Addr) (c : Nat) (hl2 : l.length ≤ 1000000) (w : World) (h : RowsAt w ao 1 (ones l)) :
    CallsR Tryd.prog 107 [.slice ao l.length c, .int .i64 x] w (fun v _ => v = .int .i64 (idxF (fun k => x = l.getD k 0) l.length)) := by
  refine CallsR.of_SX (n := 19) (rs := [.tmp 4]) Tryd.func107 rfl rfl rfl rfl ?_
  show SX _ _ _ ⟨[(0, .slice ao l.length c), (1, .int .i64 x)], [], []⟩
  refine SX.seq ?_
  refine SX.region ?_
  refine SXL.assign rfl ?_
  refine SXL.nil ?_
  refine thenQ.normal ?_
  refine SX.seq ?_
  refine SX.seq ?_
  refine SX.region ?_
  refine SXL.move rfl ?_
  refine SXL.len is_35 rfl ?_
  refine SXL.move rfl ?_
  refine SXL.nil ?_
  refine thenQ.normal ?_
  refine SX.block ?_
  refine SX.loopG (α := Nat) [0, 1, 4, 7] rfl (fun k => [(8, .int .i64 ((k : Int)))]) (fun k => []) (fun k => k ≤ l.length ∧ ∀ i, i < k → ¬x = l.getD i 0) (fun k => l.length - k) 0 ⟨Nat.zero_le _, fun _ h => absurd h (Nat.not_lt_zero _)⟩ ⟨rfl, trivial⟩ rfl ?_
  rintro k ⟨hk, hall⟩
  refine SX.seq ?_
  refine SX.region ?_
  refine SXL.lss rfl rfl ?_
  refine SXL.nil ?_
  refine thenQ.normal ?_
  refine SX.seq ?_
  refine SX.condP rfl (fun c9 => ?_) (fun c9 => ?_)
  · refine SX.skip ?_
    refine thenQ.normal ?_
    refine SX.seq ?_
    refine SX.block ?_
    refine SX.seq ?_
    refine SX.region ?_
    refine SXL.move rfl ?_
    refine SXL.assign rfl ?_
    refine SXL.nil ?_
    refine thenQ.normal ?_
    refine SX.seq ?_
    obtain ⟨b, o, ha, hm⟩ := oneI h (i := k) (by omega)
    refine SX.region ?_
    refine SXL.move rfl ?_
    refine SXL.move rfl ?_
    refine SXL.move rfl ?_
    refine SXL.indexR el_35 rfl rfl ha (by omega) ?_
    refine SXL.load1 sh_3 rfl (hm _) ?_
    refine SXL.eqlI rfl rfl ?_
    refine SXL.nil ?_
    refine thenQ.normal ?_
    refine SX.condP rfl (fun c16 => ?_) (fun c16 => ?_)
    · refine SX.seq ?_
      refine SX.region ?_
      refine SXL.move rfl ?_
      refine SXL.assign rfl ?_
      refine SXL.nil ?_
      refine thenQ.normal ?_
      refine SX.ret ?_
      refine blockQ.ret ?_
      refine thenQ.ret ?_
      refine thenQ.ret ?_
      refine blockQ.ret ?_
      refine thenQ.ret ?_
      refine retQ.one (ResAt.tmp rfl) ?_
      exact congrArg (Value.int .i64) (idxF_some (p := fun k => x = l.getD k 0) (by omega) c16 hall).symm
    · refine SX.skip ?_
      refine blockQ.normal ?_
      refine thenQ.normal ?_
      refine SX.region ?_
      refine SXL.add rfl rfl (by omega) ?_
      refine SXL.move rfl ?_
      refine SXL.nil ?_
      refine thenQ.normal ?_
      refine ⟨k + 1, Meets.mk _ ⟨rfl, trivial⟩ ⟨rfl, rfl, rfl, rfl, trivial⟩ rfl, ?_, (by omega)⟩
      refine ⟨by omega, fun i hi => ?_⟩
      by_cases e : i = k
      · subst e; exact c16
      · exact hall i (by omega)
  · refine SX.exit ?_
    refine thenQ.exit ?_
    refine thenQ.exit ?_
    refine blockQ.exit ?_
    refine thenQ.normal ?_
    refine SX.seq ?_
    refine SX.region ?_
    refine SXL.assign rfl ?_
    refine SXL.nil ?_
    refine thenQ.normal ?_
    refine SX.ret ?_
    refine retQ.one (ResAt.tmp rfl) ?_
    exact congrArg (Value.int .i64) (idxF_none (p := fun k => x = l.getD k 0) fun i hi => hall i (by omega)).symm
end Go.Proofs.YtknflipongbngaaDoor

/- The calculus' rules: blocks of a number that is not known, kept behind those that are. Nothing of the program stands here. -/
namespace Go.X
open Go Go.RowKit
theorem Sel.perm {own' own t : Own} (h : own.Perm (own' ++ t)) : Sel own' own := fun _ _ hI => (hI.perm h.symm).weaken (List.sublist_append_left _ _)
/-- New blocks go behind the first n. -/
theorem insN_sel (n : Nat) (own t : Own) : Sel (own.take n ++ t ++ own.drop n) (own ++ t) := by
  refine Sel.perm (t := []) ?_
  rw [List.append_nil]
  have h : (own.take n ++ own.drop n ++ t).Perm (own.take n ++ t ++ own.drop n) := by
    rw [List.append_assoc, List.append_assoc]
    exact List.Perm.append_left _ List.perm_append_comm
  rw [List.take_append_drop] at h
  exact h
section
variable {C : Cx} {Q : Post} {env : Env} {own : Own} {D : List Deferred} {ops : Array Oper}
theorem SXL.insN {l : List Oper} {t : Own} (n : Nat) (h : SXL C ops l Q ⟨env, own.take n ++ t ++ own.drop n, D⟩) : SXL C ops l Q ⟨env, own ++ t, D⟩ :=
  SXL.le (s' := ⟨env, own.take n ++ t ++ own.drop n, D⟩) ⟨EnvSub.refl _, insN_sel n own t, rfl⟩ h
theorem SX.insN {c : Code} {t : Own} (n : Nat) (h : SX C c Q ⟨env, own.take n ++ t ++ own.drop n, D⟩) : SX C c Q ⟨env, own ++ t, D⟩ :=
  SX.le (s' := ⟨env, own.take n ++ t ++ own.drop n, D⟩) ⟨EnvSub.refl _, insN_sel n own t, rfl⟩ h
variable {α : Type}
/-- What stands at a head: behind the first n blocks others, of which the list is named. -/
def AtV (n : Nat) (K : Env) (E : α → Env) (own0 : Own) (U : α → List (Nat × (Nat × Obj))) (B : α → Own) (D : List Deferred) (x : α) : St := ⟨E x ++ K, setAll (own0.take n) (U x) ++ B x, D⟩
def MeetsV (n : Nat) (K : Env) (E : α → Env) (own0 : Own) (U : α → List (Nat × (Nat × Obj))) (B : α → Own) (D : List Deferred) (x : α) (s : St) : Prop :=
  EnvLe (E x) s.env ∧ EnvLe K s.env ∧ Sel (setAll (own0.take n) (U x) ++ B x) s.own ∧ s.D = D
theorem MeetsV.le {n : Nat} {K : Env} {E : α → Env} {own0 : Own} {U : α → List (Nat × (Nat × Obj))} {B : α → Own} {x : α} {s : St} (h : MeetsV n K E own0 U B D x s) : Le (AtV n K E own0 U B D x) s := by
  obtain ⟨h1, h2, h3, h4⟩ := h
  exact ⟨(h1.append h2).sub, h3, h4.symm⟩
/-! ### heads at which the blocks are written out -/
def AtW (K : Env) (E : α → Env) (L B : α → Own) (D : List Deferred) (x : α) : St := ⟨E x ++ K, L x ++ B x, D⟩
def MeetsW (K : Env) (E : α → Env) (L B : α → Own) (D : List Deferred) (x : α) (s : St) : Prop := EnvLe (E x) s.env ∧ EnvLe K s.env ∧ Sel (L x ++ B x) s.own ∧ s.D = D
theorem MeetsW.le {K : Env} {E : α → Env} {L B : α → Own} {x : α} {s : St} (h : MeetsW K E L B D x s) : Le (AtW K E L B D x) s := by
  obtain ⟨h1, h2, h3, h4⟩ := h
  exact ⟨(h1.append h2).sub, h3, h4.symm⟩
theorem SX.loopW {c : Code} (ks : List Nat) {K : Env} (hK : selE env ks = some K) (E : α → Env) (L B : α → Own) (F : α → Prop) (μ : α → Nat) (x0 : α) (hF0 : F x0)
    (hE : EnvLe (E x0) env) (hU : L x0 ++ B x0 = own)
    (round : ∀ x, F x → SX C c (thenQ (fun s' => ∃ x', MeetsW K E L B D x' s' ∧ F x' ∧ μ x' < μ x) Q) (AtW K E L B D x)) : SX C (.loop c) Q ⟨env, own, D⟩ :=
  SX.loop (AtW K E L B D) F μ x0 hF0 (MeetsW.le ⟨hE, selE_le hK, by rw [hU]; exact Sel.refl _, rfl⟩) fun x hx =>
    (round x hx).mono fun e s hq => by
      cases e
      case normal => obtain ⟨x', h1, h2, h3⟩ := hq; exact ⟨x', h1.le, h2, h3⟩
      all_goals exact hq
theorem retQ.selS {rs : List ResultVar} {R : Value → Own → Prop} {e : Exit} {o : Own} (hS : Sel o own) (h : retQ C rs (fun v _ => R v o) e ⟨env, own, []⟩) : retQ C rs R e ⟨env, own, []⟩ := by
  cases e <;> first | exact h.elim | skip
  all_goals
    obtain ⟨own0, hu, vs, hrs, own', hs, hR⟩ := h
    cases hu
    exact ⟨own, .nil _, vs, hrs, o, hS, hR⟩
theorem Sel.at {x : Nat × Obj} {i : Nat} (h : own[i]? = some x) : Sel [x] own := Sel.of [i] (by simp [selI, h]) (by simp [distinct])
end
end Go.X

/- The calculus' rules: sets of numbers kept as maps from numbers to true. Nothing of the program stands here. -/
namespace Go.X
open Go Go.RowKit
/-- A map from numbers to bools that holds true at each of its keys, in the order in which they came. -/
def mkMap (ks : List (Int × Nat)) : List MapEntry := ks.map fun x => { key := .int .i64 x.1, val := .bool true, born := x.2 }
def mkeys (ks : List (Int × Nat)) : List Int := ks.map (·.1)
def mput (ks : List (Int × Nat)) (k : Int) (c : Nat) : List (Int × Nat) := if k ∈ mkeys ks then ks else ks ++ [(k, c)]
def mclk (ks : List (Int × Nat)) (k : Int) (c : Nat) : Nat := if k ∈ mkeys ks then c else c + 1
def mdel (ks : List (Int × Nat)) (k : Int) : List (Int × Nat) := ks.eraseP fun x => x.1 == k
theorem mput_keys {ks : List (Int × Nat)} {k x : Int} {c : Nat} : x ∈ mkeys (mput ks k c) ↔ x = k ∨ x ∈ mkeys ks := by
  unfold mput
  split
  · rename_i h
    exact ⟨.inr, fun hx => hx.elim (fun e => e ▸ h) id⟩
  · simp [mkeys, or_comm]
theorem mput_nodup {ks : List (Int × Nat)} {k : Int} {c : Nat} (h : (mkeys ks).Nodup) : (mkeys (mput ks k c)).Nodup := by
  unfold mput
  split
  · exact h
  · rename_i hn
    simp only [mkeys, List.map_append, List.map_cons, List.map_nil] at h hn ⊢
    rw [List.nodup_append]
    exact ⟨h, by simp, fun a ha b hb => by simp at hb; subst hb; intro e; subst e; exact hn ha⟩
theorem mdel_nodup {ks : List (Int × Nat)} {k : Int} (h : (mkeys ks).Nodup) : (mkeys (mdel ks k)).Nodup := by
  unfold mkeys mdel at *
  exact h.sublist ((List.eraseP_sublist).map _)
theorem mdel_keys {ks : List (Int × Nat)} {k x : Int} (h : (mkeys ks).Nodup) : x ∈ mkeys (mdel ks k) ↔ x ≠ k ∧ x ∈ mkeys ks := by
  induction ks with
  | nil => simp [mkeys, mdel]
  | cons y ks ih =>
    simp only [mkeys, List.map_cons, List.nodup_cons] at h
    have ih := ih h.2
    by_cases hy : y.1 = k
    · have e : mdel (y :: ks) k = ks := by simp [mdel, hy]
      rw [e]
      simp only [mkeys, List.map_cons, List.mem_cons]
      constructor
      · intro hx
        refine ⟨fun e => ?_, .inr hx⟩
        subst e
        rw [hy] at h
        exact h.1 hx
      · rintro ⟨h1, h2 | h2⟩
        · exact absurd (h2.trans hy) h1
        · exact h2
    · have e : mdel (y :: ks) k = y :: mdel ks k := by simp [mdel, hy]
      rw [e]
      simp only [mkeys, List.map_cons, List.mem_cons] at ih ⊢
      rw [ih]
      constructor
      · rintro (h1 | ⟨h1, h2⟩)
        · exact ⟨fun e => hy (h1.symm.trans e), .inl h1⟩
        · exact ⟨h1, .inr h2⟩
      · rintro ⟨h1, h2 | h2⟩
        · exact .inl h2
        · exact .inr ⟨h1, h2⟩
def mfind (ks : List (Int × Nat)) (k : Int) : Option Nat := ks.findIdx? fun x => x.1 == k
theorem mfind_none {ks : List (Int × Nat)} {k : Int} : mfind ks k = none ↔ k ∉ mkeys ks := by
  simp only [mfind, mkeys, List.findIdx?_eq_none_iff, List.mem_map, not_exists, not_and, beq_eq_false_iff_ne, ne_eq]
theorem findNow_mk (k : Int) : ∀ (ks : List (Int × Nat)) (i : Nat), Instr.findNow (.int .i64) (.int .i64 k) (mkMap ks) i = some ((mfind ks k).map fun j => (i + j, .bool true))
  | [], i => rfl
  | y :: ks, i => by
    have ih := findNow_mk k ks (i + 1)
    by_cases hy : y.1 = k
    · simp [mkMap, Instr.findNow, Instr.sameNow, mfind, List.findIdx?_cons, hy]
    · have hy' : ¬k = y.1 := fun e => hy e.symm
      simp only [mkMap, List.map_cons, Instr.findNow, Instr.sameNow, if_true]
      have e1 : (k == y.1) = false := by simpa using hy'
      rw [e1]
      simp only []
      have ih' : Instr.findNow (.int .i64) (.int .i64 k) (ks.map fun x => { key := .int .i64 x.1, val := .bool true, born := x.2 }) (i + 1) = some ((mfind ks k).map fun j => (i + 1 + j, .bool true)) := ih
      rw [ih']
      have e2 : (y.1 == k) = false := by simpa using hy
      simp only [mfind, List.findIdx?_cons, e2]
      cases ks.findIdx? fun x => x.1 == k <;> simp
      omega
/-- A slice against nil. -/
theorem run_eql_slice_nil' {P : Program} {w : World} {T : TypeId} {x y : Operand} (h : isSliceP P T = true) (a : Option Addr) (n c : Nat) :
    (do eqGuard .eql T x y (.slice a n c) (.slice none 0 0); binOp .eql T (.slice a n c) (.slice none 0 0) : Sem Value).run P w = .ok (.bool (decide (a = none))) w := by
  unfold isSliceP at h
  split at h
  · rename_i e hu
    have h1 : (Op.equal T (.slice a n c) (.slice none 0 0)).run P w = .ok a.isNone w := by
      show (Op.equalIn (9999 + 1) T _ _).run P w = _
      unfold Op.equalIn
      cases a <;> simp [run_underlying hu, Result.andThen]
    have e1 : decide (a = none) = a.isNone := by cases a <;> simp
    simp [eqGuard, binOp, h1, Result.andThen, e1]
  · cases h
def mapKB (P : Program) (t : TypeId) : Bool := match P.underlying t with
  | some (.map k e) => (match P.underlying k, P.underlying e with | some (.int .i64), some .bool => true | _, _ => false) && (match (P.info? e).bind (·.zero) with | some (.bool false) => true | _ => false)
  | _ => false
theorem mapKB_spec {P : Program} {t : TypeId} (h : mapKB P t = true) : ∃ k e, P.underlying t = some (.map k e) ∧ P.underlying k = some (.int .i64) ∧ P.underlying e = some .bool ∧ (P.info? e).bind (·.zero) = some (.bool false) := by
  unfold mapKB at h
  split at h
  · rename_i k e hu
    rw [Bool.and_eq_true] at h
    refine ⟨k, e, hu, ?_⟩
    obtain ⟨h1, h2⟩ := h
    split at h1
    · rename_i a b
      split at h2
      · rename_i c
        exact ⟨a, b, c⟩
      · cases h2
    · cases h1
  · cases h
section
variable {P : Program} {w : World}
theorem run_checkKey_i64 {k : TypeId} (hu : P.underlying k = some (.int .i64)) (e : Bool) (v : Value) : (Instr.checkKey e 10000 k v).run P w = .ok () w := by
  show (Instr.checkKey e (9999 + 1) k v).run P w = _
  unfold Instr.checkKey
  simp [run_underlying hu, Result.andThen]
theorem run_findKey_mk {k : TypeId} (hu : P.underlying k = some (.int .i64)) (x : Int) (ks : List (Int × Nat)) : (Instr.findKey k (.int .i64 x) (mkMap ks)).run P w = .ok ((mfind ks x).map fun j => (j, .bool true)) w := by
  simp [Instr.findKey, run_underlying hu, Result.andThen, findNow_mk]
theorem run_zero_bool {e : TypeId} (hz : (P.info? e).bind (·.zero) = some (.bool false)) : (zeroValue e).run P w = .ok (.bool false) w := by
  cases hi : P.info? e with
  | none => simp [hi] at hz
  | some inf =>
    simp only [hi, Option.bind_some] at hz
    simp [zeroValue, typeInfo, hi, hz, Result.andThen]
theorem run_lookup_mk {t : TypeId} (ht : mapKB P t = true) {b c : Nat} {ks : List (Int × Nat)} (hb : w.heap[b]? = some (.map ⟨mkMap ks⟩ c)) (x : Int) : (Instr.lookup t (.map (some b)) (.int .i64 x) false).run P w = .ok (.bool (decide (x ∈ mkeys ks))) w := by
  obtain ⟨k, e, hu, hk, he, hz⟩ := mapKB_spec ht
  simp only [Instr.lookup]
  simp [run_underlying hu, MapKept.run_getObj_map hb, Result.andThen, run_checkKey_i64 hk, run_findKey_mk hk]
  cases hf : mfind ks x with
  | none =>
    have := mfind_none.1 hf
    simp [run_zero_bool hz, this]
  | some j =>
    have : x ∈ mkeys ks := Decidable.byContradiction fun hn => by rw [mfind_none.2 hn] at hf; cases hf
    simp [this]
theorem mkMap_get {ks : List (Int × Nat)} {x : Int} {j : Nat} (h : mfind ks x = some j) : (mkMap ks)[j]? = some { key := .int .i64 x, val := .bool true, born := ((ks[j]?).map (·.2)).getD 0 } := by
  unfold mfind at h
  rw [List.findIdx?_eq_some_iff_getElem] at h
  obtain ⟨hlt, hx, _⟩ := h
  have hx' : ks[j].1 = x := by simpa using hx
  simp [mkMap, hlt, hx']
theorem modify_same {l : List MapEntry} : ∀ {j : Nat} {e : MapEntry} (f : MapEntry → MapEntry), l[j]? = some e → f e = e → l.modify j f = l := by
  induction l with
  | nil => intro j e f h; simp at h
  | cons x l ih =>
    intro j e f h hf
    cases j with
    | zero => simp at h; subst h; simp [hf]
    | succ j => simp [ih f (by simpa using h) hf]
theorem mkMap_snoc (ks : List (Int × Nat)) (x : Int) (c : Nat) : mkMap (ks ++ [(x, c)]) = mkMap ks ++ [{ key := .int .i64 x, val := .bool true, born := c }] := by simp [mkMap]
theorem run_put_mk {t : TypeId} (ht : mapKB P t = true) {b c : Nat} {ks : List (Int × Nat)} (hb : w.heap[b]? = some (.map ⟨mkMap ks⟩ c)) (x : Int) :
    (Instr.mapUpdate t (.map (some b)) (.int .i64 x) (.bool true)).run P w = .ok () { w with heap := w.heap.setIfInBounds b (.map ⟨mkMap (mput ks x c)⟩ (mclk ks x c)) } := by
  obtain ⟨k, e, hu, hk, he, hz⟩ := mapKB_spec ht
  cases hf : mfind ks x with
  | none =>
    have hn := mfind_none.1 hf
    simp [Instr.mapUpdate, run_underlying hu, MapKept.run_getObj_map hb, Result.andThen, run_checkKey_i64 hk, run_findKey_mk hk, hf, MapKept.run_setObj_map _ hb, mput, mclk, hn, mkMap_snoc]
  | some j =>
    have hy : x ∈ mkeys ks := Decidable.byContradiction fun hn => by rw [mfind_none.2 hn] at hf; cases hf
    have hg := mkMap_get hf
    have hstay : (Instr.keyThatStays (.int .i64 x) (.int .i64 x)).run P w = .ok (.int .i64 x) w := by
      simp [Instr.keyThatStays, Instr.sameBits]
    have hm : (mkMap ks).modify j (fun e => { e with key := .int .i64 x, val := .bool true }) = mkMap ks := modify_same _ hg rfl
    simp [Instr.mapUpdate, run_underlying hu, MapKept.run_getObj_map hb, Result.andThen, run_checkKey_i64 hk, run_findKey_mk hk, hf, MapKept.run_setObj_map _ hb, mput, mclk, hy, hg, hstay]
    rw [hm]
theorem map_eraseIdx' {α β : Type} (f : α → β) : ∀ (l : List α) (j : Nat), (l.map f).eraseIdx j = (l.eraseIdx j).map f
  | [], _ => rfl
  | _ :: _, 0 => rfl
  | _ :: l, j + 1 => by simp [map_eraseIdx' f l j]
theorem mdel_at {ks : List (Int × Nat)} {x : Int} {j : Nat} (h : mfind ks x = some j) : (mkMap ks).eraseIdx j = mkMap (mdel ks x) := by
  have h' := h
  unfold mfind at h'
  rw [mdel, List.eraseP_eq_eraseIdx, h']
  simp only [mkMap]
  rw [map_eraseIdx']
theorem run_del_mk {t : TypeId} (ht : mapKB P t = true) {ty : TypeId} {b c : Nat} {ks : List (Int × Nat)} (hb : w.heap[b]? = some (.map ⟨mkMap ks⟩ c)) (x : Int) {ats : Array TypeId} (hat : ats[0]? = some t) :
    (Builtin.delete_ ats ty #[.map (some b), .int .i64 x]).run P w = .ok (.tuple #[]) { w with heap := w.heap.setIfInBounds b (.map ⟨mkMap (mdel ks x)⟩ c) } := by
  obtain ⟨k, e, hu, hk, he, hz⟩ := mapKB_spec ht
  cases hf : mfind ks x with
  | none =>
    have hn : mdel ks x = ks := by
      have := mfind_none.1 hf
      rw [mdel, List.eraseP_of_forall_not]
      intro a ha hb
      simp at hb
      exact this (by simp only [mkeys, List.mem_map]; exact ⟨a, ha, hb⟩)
    simp [Builtin.delete_, hat, run_underlying hu, MapKept.run_getObj_map hb, Result.andThen, run_checkKey_i64 hk, run_findKey_mk hk, hf, MapKept.run_setObj_map _ hb, hn]
  | some j =>
    have hd := mdel_at hf
    simp [Builtin.delete_, hat, run_underlying hu, MapKept.run_getObj_map hb, Result.andThen, run_checkKey_i64 hk, run_findKey_mk hk, hf, MapKept.run_setObj_map _ hb]
    rw [hd]
end
section
variable {C : Cx} {Q : Post} {env : Env} {own : Own} {D : List Deferred} {ops : Array Oper} {rest : List Oper}
variable {d : Nat} {ty : TypeId} {pos : String} {aft : Array Edge} {g : Option (Nat × Bool)} {x y z : Operand} {T : TypeId}
theorem SXL.makeMap (h : ∀ b, SXL C ops rest Q ⟨(d, .map (some b)) :: env, own ++ [(b, .map ⟨mkMap []⟩ 0)], D⟩)
    (hd : Nat.blt d C.n = true := by rfl) (hw : Wanted ops g env = some true := by rfl) (hdr : C.dr = false := by rfl) :
    SXL C ops ({ dst := some d, op := .makeMap T none, type := ty, pos, after := aft, guard := g } :: rest) Q ⟨env, own, D⟩ :=
  SXL.new (f := fun b => .map (some b)) rfl hd hw (fun _ e => by cases e) (fun a w ha hI => by
    simp [execOp, Instr.makeMap, Result.andThen, mkMap]) h hdr
theorem SXL.mapGet (i : Nat) {b c : Nat} {ks : List (Int × Nat)} {k : Int} (hT : mapKB C.P T = true) (hx : ev env x = some (.map (some b))) (hy : ev env y = some (.int .i64 k)) (hi : own[i]? = some (b, .map ⟨mkMap ks⟩ c))
    (h : SXL C ops rest Q ⟨(d, .bool (decide (k ∈ mkeys ks))) :: env, own, D⟩) (hd : Nat.blt d C.n = true := by rfl) (hw : Wanted ops g env = some true := by rfl) :
    SXL C ops ({ dst := some d, op := .lookup T x y false, type := ty, pos, after := aft, guard := g } :: rest) Q ⟨env, own, D⟩ :=
  SXL.val rfl hd hw (fun _ e => by cases e) (fun a w ha hI => by
    simp only [execOp, ha.eval hx, ha.eval hy]
    exact run_val (run_lookup_mk hT (hI.get hi rfl).2 k)) h
theorem Inv.setMap {w0 w : World} {own : Own} (h : Inv w0 own w) {i b c c' : Nat} {es es' : Array MapEntry} (hi : own[i]? = some (b, .map es c)) :
    Inv w0 (own.set i (b, .map es' c')) { w with heap := w.heap.setIfInBounds b (.map es' c') } := by
  have hb := (h.get hi rfl).2
  have hlt := (Array.getElem?_eq_some_iff.1 hb).1
  exact h.set hi rfl (fun k hk => by simp [hk.symm]) (by simp [hlt]) (by simp) rfl rfl rfl
theorem SXL.mapPut (i : Nat) {b c : Nat} {ks : List (Int × Nat)} {k : Int} (hT : mapKB C.P T = true) (hx : ev env x = some (.map (some b))) (hy : ev env y = some (.int .i64 k)) (hz : ev env z = some (.bool true)) (hi : own[i]? = some (b, .map ⟨mkMap ks⟩ c))
    (h : SXL C ops rest Q ⟨env, own.set i (b, .map ⟨mkMap (mput ks k c)⟩ (mclk ks k c)), D⟩) (hw : Wanted ops g env = some true := by rfl) (hdr : C.dr = false := by rfl) :
    SXL C ops ({ dst := none, op := .mapUpdate T x y z, type := ty, pos, after := aft, guard := g } :: rest) Q ⟨env, own, D⟩ :=
  SXL.op hw (fun _ e => by cases e) (hdr := hdr) fun a w hc => by
    have hr := run_put_mk hT (hc.2.2.get hi rfl).2 k
    refine ⟨undef, _, .inr ⟨?_, rfl⟩, ⟨env, own.set i (b, .map ⟨mkMap (mput ks k c)⟩ (mclk ks k c)), D⟩, fun a' ha' hD' => ⟨ha', hD', hc.2.2.setMap hi⟩, h⟩
    simp only [execOp, hc.1.eval hx, hc.1.eval hy, hc.1.eval hz]
    simp [hr, Result.andThen]
theorem SXL.mapDel (i : Nat) {b c : Nat} {ks : List (Int × Nat)} {k : Int} {ats : Array TypeId} (hT : mapKB C.P T = true) (hat : ats[0]? = some T) (hx : ev env x = some (.map (some b))) (hy : ev env y = some (.int .i64 k)) (hi : own[i]? = some (b, .map ⟨mkMap ks⟩ c))
    (h : SXL C ops rest Q ⟨env, own.set i (b, .map ⟨mkMap (mdel ks k)⟩ c), D⟩) (hw : Wanted ops g env = some true := by rfl) (hdr : C.dr = false := by rfl) :
    SXL C ops ({ dst := none, op := .call { callee := .builtin .delete, args := #[x, y], argTypes := ats }, type := ty, pos, after := aft, guard := g } :: rest) Q ⟨env, own, D⟩ :=
  SXL.op hw (fun _ e => by cases e) (hdr := hdr) fun a w hc => by
    have hr := run_del_mk hT (ty := ty) (b := b) (hc.2.2.get hi rfl).2 k hat
    refine ⟨.tuple #[], _, .inl ?_, ⟨env, own.set i (b, .map ⟨mkMap (mdel ks k)⟩ c), D⟩, fun a' ha' hD' => ⟨ha', hD', hc.2.2.setMap hi⟩, h⟩
    rw [run_builtin]
    simp only [List.map_toArray, List.map_cons, List.map_nil, hc.1.eval hx, hc.1.eval hy]
    show (do pure (Next.value (← Builtin.delete_ ats ty #[.map (some b), .int .i64 k])) : Sem Next).run C.P w = _
    simp [hr, Result.andThen]
theorem SXL.eqlS {T' : TypeId} {ao : Option Addr} {n c : Nat} (hT : isSliceP C.P T = true) (hx : ev env x = some (.slice ao n c)) (hy : ev env y = some (.slice none 0 0))
    (h : SXL C ops rest Q ⟨(d, .bool (decide (ao = none))) :: env, own, D⟩) (hd : Nat.blt d C.n = true := by rfl) (hw : Wanted ops g env = some true := by rfl) :
    SXL C ops ({ dst := some d, op := .binOp .eql T x y T', type := ty, pos, after := aft, guard := g } :: rest) Q ⟨env, own, D⟩ :=
  SXL.bin hx hy (r := .bool (decide (ao = none))) (fun _w => run_eql_slice_nil' hT ao n c) hd hw h
end
end Go.X

/- Springs without some readings, in memory. -/
namespace Go.S
open Go Go.X
def rdC (l : List Rd) : List Value := (l.map Rd.cells).flatten
/-- A list of numbers, handed back. -/
structure IsI (l : List Int) (v : Value) (own : X.Own) : Prop where
  ex : ∃ r : Sl, r.Ok l.length 1 (ints l) ∧ v = r.val l.length ∧ own = [r.ent 3 (ints l)]
/-- A book's lines, handed back. -/
structure IsB (s : Sp) (v : Value) (own : X.Own) : Prop where
  ex : ∃ r : Sl, r.Ok s.book.length 5 (bookC s) ∧ v = r.val s.book.length ∧ own = [r.ent 61 (bookC s)]
theorem onesSrc {w : World} {l : List Int} {ao : Option Addr} (h : RowsAt w ao 1 (ones l)) (own : X.Own) : Src w own ao l.length (ints l) := by
  have := h.src (by omega) (by intro q hq; obtain ⟨x, _, rfl⟩ := List.mem_map.1 hq; rfl) own
  rwa [ones_flatten, show (ones l).length = l.length from by simp [ones]] at this
theorem linesSrc {w : World} {s : Sp} {ao : Option Addr} (h : RowsAt w ao 5 (s.book.map Ln.cells)) (own : X.Own) : Src w own ao s.book.length (bookC s) := by
  have := h.src (by omega) (by intro q hq; obtain ⟨x, _, rfl⟩ := List.mem_map.1 hq; rfl) own
  rwa [List.length_map] at this
/-- What is to be struck still. -/
theorem gone_iff {s : Sp} {ns : List Int} {ks : List (Int × Nat)} {k : Nat} (hd : (numsL s).Nodup) (hk : k < s.reads.length) (h : ∀ x, x ∈ mkeys ks ↔ x ∈ ns ∧ ∀ i, i < k → (s.reads.getD i default).num ≠ x) :
    (s.reads.getD k default).num ∈ mkeys ks ↔ (s.reads.getD k default).num ∈ ns := by
  rw [h]
  refine ⟨fun h => h.1, fun h1 => ⟨h1, fun i hi e => ?_⟩⟩
  have := nodup_at hd (show i < s.reads.length by omega) hk e
  omega
theorem gone_del {s : Sp} {ns : List Int} {ks : List (Int × Nat)} {k : Nat} (hn : (mkeys ks).Nodup) (_hk : k < s.reads.length) (h : ∀ x, x ∈ mkeys ks ↔ x ∈ ns ∧ ∀ i, i < k → (s.reads.getD i default).num ≠ x) :
    ∀ x, x ∈ mkeys (mdel ks (s.reads.getD k default).num) ↔ x ∈ ns ∧ ∀ i, i < k + 1 → (s.reads.getD i default).num ≠ x := by
  intro x
  rw [mdel_keys hn, h]
  constructor
  · rintro ⟨h1, h2, h3⟩
    refine ⟨h2, fun i hi => ?_⟩
    by_cases e : i = k
    · subst e; exact fun e => h1 e.symm
    · exact h3 i (by omega)
  · rintro ⟨h2, h3⟩
    exact ⟨fun e => h3 k (by omega) e.symm, h2, fun i hi => h3 i (by omega)⟩
theorem gone_stay {s : Sp} {ns : List Int} {ks : List (Int × Nat)} {k : Nat} (_hk : k < s.reads.length) (hno : (s.reads.getD k default).num ∉ ns) (h : ∀ x, x ∈ mkeys ks ↔ x ∈ ns ∧ ∀ i, i < k → (s.reads.getD i default).num ≠ x) :
    ∀ x, x ∈ mkeys ks ↔ x ∈ ns ∧ ∀ i, i < k + 1 → (s.reads.getD i default).num ≠ x := by
  intro x
  rw [h]
  constructor
  · rintro ⟨h2, h3⟩
    refine ⟨h2, fun i hi => ?_⟩
    by_cases e : i = k
    · subst e; exact fun e => hno (e ▸ h2)
    · exact h3 i (by omega)
  · rintro ⟨h2, h3⟩
    exact ⟨h2, fun i hi => h3 i (by omega)⟩
end Go.S

/- One truth of each rain, in memory. -/
namespace Go.S
open Go Go.X
/-- A rain, a list, and what it comes to. -/
abbrev Trt := Int × Sl × List Int
def rowT (x : Trt) : List Value := [.int .i64 x.1, x.2.1.val x.2.2.length]
def entT (x : Trt) : Nat × Obj := x.2.1.ent 3 (ints x.2.2)
def okT (x : Trt) : Prop := x.2.1.Ok x.2.2.length 1 (ints x.2.2)
instance : Inhabited Trt := ⟨(0, Sl.nil, [])⟩
structure EndsR (s : Sp) (off : Nat) (v : Value) (own : X.Own) : Prop where
  ex : ∃ (q : Sl) (tr : List Trt), tr.map (·.1) = toldL s 0 ∧ tr.map (·.2.2) = (toldA s 0).map (fun X => endL X off s.weeks.toNat) ∧ (∀ x ∈ tr, okT x) ∧ q.Ok tr.length 2 (tr.map rowT).flatten ∧
    v = .tuple ⟨[q.val tr.length, .int .i64 (toldE s 0)]⟩ ∧ own = q.ent 151 (tr.map rowT).flatten :: tr.map entT
theorem rowT_len (tr : List Trt) : ∀ q ∈ tr.map rowT, q.length = 2 := by
  intro q hq
  obtain ⟨x, _, rfl⟩ := List.mem_map.1 hq
  rfl
theorem Ok.rows2 {q : Sl} {n : Nat} {tr : List Trt} (h : q.Ok n 2 (tr.map rowT).flatten) : n = tr.length := by
  have h1 := h.len
  rw [length_flatten (rowT_len tr), List.length_map] at h1
  omega
/-- Truths in memory: those that are told. -/
structure TrAt (w : World) (ao : Option Addr) (tr : List Trt) : Prop where
  rows : RowsAt w ao 2 (tr.map rowT)
  each : ∀ x ∈ tr, RowsAt w x.2.1.addr 1 (ones x.2.2)
theorem TrAt.inv {w0 w : World} {own : X.Own} {ao : Option Addr} {tr : List Trt} (h : TrAt w0 ao tr) (hI : Inv w0 own w) : TrAt w ao tr := ⟨h.rows.inv hI, fun x hx => (h.each x hx).inv hI⟩
theorem TrAt.row {w : World} {ao : Option Addr} {tr : List Trt} (h : TrAt w ao tr) {i : Nat} (hi : i < tr.length) : ∃ b o, ao = some ⟨b, o, none⟩ ∧ ∀ own, Mem w own b (o + i * 2) (rowT (tr.getD i default)) :=
  h.rows.get (by simp [hi])
def SmT (tr : List Trt) : Prop := ∀ x ∈ tr, x.2.2.length ≤ 10 ∧ ∀ i, i < x.2.2.length → -1000 ≤ x.2.2.getD i 0 ∧ x.2.2.getD i 0 ≤ 1000
end Go.S

/- The walks of functions. -/
namespace Go.Proofs.YtknflipongbngaaDoor
open Go.X Go.S Go.RowKit
end Go.Proofs.YtknflipongbngaaDoor

/- The walks of functions. -/
namespace Go.Proofs.YtknflipongbngaaDoor
open Go.X Go.S
theorem great_any (s : Sp) (bo ro : Option Addr) (bc rc : Nat) (w : World) :
    CallsR Tryd.prog 16 [.agg ⟨[.int .i64 s.weeks, .int .i64 s.most, .int .i64 s.fall, .int .i64 s.a0, .int .i64 s.a1, .int .i64 s.w0, .int .i64 s.w1, (.slice bo s.book.length bc), (.slice ro s.reads.length rc)]⟩] w (fun v _ => v = .bool (decide ((30 : Int) < (s.book.length : Int) ∨ (30 : Int) < (s.reads.length : Int)))) := by
  refine CallsR.of_SX (n := 13) (rs := [.tmp 2]) Tryd.func16 rfl rfl rfl rfl ?_
  show SX _ _ _ ⟨[(0, .agg ⟨[.int .i64 s.weeks, .int .i64 s.most, .int .i64 s.fall, .int .i64 s.a0, .int .i64 s.a1, .int .i64 s.w0, .int .i64 s.w1, (.slice bo s.book.length bc), (.slice ro s.reads.length rc)]⟩)], [], []⟩
  refine SX.seq ?_
  refine SX.region ?_
  refine SXL.box rfl rfl ?_; intro b0
  refine SXL.assign rfl ?_
  refine SXL.nil ?_
  refine thenQ.normal ?_
  refine SX.seq ?_
  refine SX.region ?_
  refine SXL.fieldAddr fp_27_5 rfl ?_
  refine SXL.load1o 0 sh_24 rfl rfl rfl ?_
  refine SXL.len is_24 rfl ?_
  refine SXL.gtr rfl rfl ?_
  refine SXL.move rfl ?_
  apply SXL.orG 4
  case hl => exact rfl
  case hd => exact rfl
  case hg => exact rfl
  case ht =>
    intro g1
    refine SXL.pass rfl rfl rfl ?_
    refine SXL.pass rfl rfl rfl ?_
    refine SXL.pass rfl rfl rfl ?_
    refine SXL.pass rfl rfl rfl ?_
    exact SXL.nil (segQ.mk (.skip rfl (.skip rfl (.skip rfl (.skip rfl (.skip rfl (EnvSub.refl _)))))) rfl rfl rfl)
  case hf =>
    intro g1
    refine SXL.fieldAddr fp_27_6 rfl ?_
    refine SXL.load1o 0 sh_25 rfl rfl rfl ?_
    refine SXL.len is_25 rfl ?_
    refine SXL.gtr rfl rfl ?_
    exact SXL.nil (segQ.mk (.skip rfl (.skip rfl (.skip rfl (.skip rfl (.skip rfl (EnvSub.refl _)))))) rfl rfl ⟨rfl, rfl⟩)
  refine SXL.assign rfl ?_
  refine SXL.nil ?_
  refine thenQ.normal ?_
  refine SX.ret ?_
  refine retQ.one (ResAt.tmp rfl) ?_
  first | rfl | assumption
theorem sameInts_any (l m : List Int) (lo mo : Option Addr) (lc mc : Nat) (hmx : l.length ≤ 1000000) (w : World) (h1 : RowsAt w lo 1 (ones l)) (h2 : RowsAt w mo 1 (ones m)) :
    CallsR Tryd.prog 28 [.slice lo l.length lc, .slice mo m.length mc] w (fun v _ => v = .bool (decide (l = m))) := by
  refine CallsR.of_SX (n := 26) (rs := [.tmp 4]) Tryd.func28 rfl rfl rfl rfl ?_
  show SX _ _ _ ⟨[(0, .slice lo l.length lc), (1, .slice mo m.length mc)], [], []⟩
  refine SX.seq ?_
  refine SX.region ?_
  refine SXL.assign rfl ?_
  refine SXL.nil ?_
  refine thenQ.normal ?_
  refine SX.seq ?_
  refine SX.seq ?_
  refine SX.region ?_
  refine SXL.move rfl ?_
  refine SXL.len is_35 rfl ?_
  refine SXL.move rfl ?_
  refine SXL.len is_35 rfl ?_
  refine SXL.neqI rfl rfl ?_
  refine SXL.nil ?_
  refine thenQ.normal ?_
  refine SX.condP rfl (fun c10 => ?_) (fun c10 => ?_)
  · refine SX.seq ?_
    refine SX.region ?_
    refine SXL.assign rfl ?_
    refine SXL.nil ?_
    refine thenQ.normal ?_
    refine SX.ret ?_
    refine thenQ.ret ?_
    refine retQ.one (ResAt.tmp rfl) ?_
    exact congrArg Value.bool (decide_eq_false (by intro h; subst h; omega)).symm
  · refine SX.skip ?_
    refine thenQ.normal ?_
    refine SX.seq ?_
    refine SX.seq ?_
    refine SX.region ?_
    refine SXL.assign rfl ?_
    refine SXL.nil ?_
    refine thenQ.normal ?_
    refine SX.block ?_
    refine SX.loopG (α := Nat) [0, 1, 4] rfl (fun k => [(5, .int .i64 ((k : Int)))]) (fun k => []) (fun k => k ≤ l.length ∧ ∀ i, i < k → l.getD i 0 = m.getD i 0) (fun k => l.length - k) 0 ⟨Nat.zero_le _, fun _ h => absurd h (Nat.not_lt_zero _)⟩ ⟨rfl, trivial⟩ rfl ?_
    rintro k ⟨hk, hall⟩
    refine SX.seq ?_
    refine SX.seq ?_
    refine SX.region ?_
    refine SXL.move rfl ?_
    refine SXL.move rfl ?_
    refine SXL.len is_35 rfl ?_
    refine SXL.lss rfl rfl ?_
    refine SXL.nil ?_
    refine thenQ.normal ?_
    refine SX.condP rfl (fun c14 => ?_) (fun c14 => ?_)
    · refine SX.skip ?_
      refine thenQ.normal ?_
      refine SX.seq ?_
      refine SX.block ?_
      refine SX.seq ?_
      obtain ⟨b, o, ha, hm⟩ := oneI h1 (i := k) (by omega)
      obtain ⟨b2, o2, ha2, hm2⟩ := oneI h2 (i := k) (by omega)
      refine SX.draw 9 (by kernel_rfl) (by kernel_rfl) {} ?_
      refine SXA.take 0 9 rfl (by kernel_rfl) rfl ?_
      refine SXL.move rfl ?_
      refine SXL.move rfl ?_
      refine SXL.indexR el_35 rfl rfl ha (by omega) ?_
      refine SXL.load1 sh_3 rfl (hm _) ?_
      refine SXL.move rfl ?_
      refine SXL.move rfl ?_
      refine SXL.indexR el_35 rfl rfl ha2 (by omega) ?_
      refine SXL.load1 sh_3 rfl (hm2 _) ?_
      refine SXL.neqI rfl rfl ?_
      refine SXL.nil ⟨rfl, rfl, rfl, ?_⟩
      refine SXA.done (by kernel_rfl) ?_
      refine SXL.nil ?_
      refine thenQ.normal ?_
      refine SX.condP rfl (fun c25 => ?_) (fun c25 => ?_)
      · refine SX.seq ?_
        refine SX.region ?_
        refine SXL.assign rfl ?_
        refine SXL.nil ?_
        refine thenQ.normal ?_
        refine SX.ret ?_
        refine blockQ.ret ?_
        refine thenQ.ret ?_
        refine thenQ.ret ?_
        refine blockQ.ret ?_
        refine thenQ.ret ?_
        refine retQ.one (ResAt.tmp rfl) ?_
        exact congrArg Value.bool (decide_eq_false (by intro h; subst h; exact c25 rfl)).symm
      · refine SX.skip ?_
        refine blockQ.normal ?_
        refine thenQ.normal ?_
        refine SX.region ?_
        refine SXL.move rfl ?_
        refine SXL.add rfl rfl (by omega) ?_
        refine SXL.assign rfl ?_
        refine SXL.nil ?_
        refine thenQ.normal ?_
        refine ⟨k + 1, Meets.mk _ ⟨rfl, trivial⟩ ⟨rfl, rfl, rfl, trivial⟩ rfl, ?_, (by omega)⟩
        refine ⟨by omega, fun i hi => ?_⟩
        by_cases e : i = k
        · subst e; exact Decidable.not_not.1 c25
        · exact hall i (by omega)
    · refine SX.exit ?_
      refine thenQ.exit ?_
      refine thenQ.exit ?_
      refine blockQ.exit ?_
      refine thenQ.normal ?_
      refine SX.seq ?_
      refine SX.region ?_
      refine SXL.assign rfl ?_
      refine SXL.nil ?_
      refine thenQ.normal ?_
      refine SX.ret ?_
      refine retQ.one (ResAt.tmp rfl) ?_
      exact congrArg Value.bool (decide_eq_true (List.ext_getElem (by omega) (fun i h3 h4 => by have := hall i (by omega); simpa [h3, h4] using this))).symm
theorem same_any (x y : Sp) (xb xr yb yr : Option Addr) (xbc xrc ybc yrc : Nat) (hm1 : x.book.length ≤ 1000000) (hm2 : x.reads.length ≤ 1000000) (w : World) (hx : SpAt w x xb xr) (hy : SpAt w y yb yr) :
    CallsR Tryd.prog 29 [.agg ⟨[.int .i64 x.weeks, .int .i64 x.most, .int .i64 x.fall, .int .i64 x.a0, .int .i64 x.a1, .int .i64 x.w0, .int .i64 x.w1, (.slice xb x.book.length xbc), (.slice xr x.reads.length xrc)]⟩, .agg ⟨[.int .i64 y.weeks, .int .i64 y.most, .int .i64 y.fall, .int .i64 y.a0, .int .i64 y.a1, .int .i64 y.w0, .int .i64 y.w1, (.slice yb y.book.length ybc), (.slice yr y.reads.length yrc)]⟩] w (fun v _ => v = .bool (decide (x = y))) := by
  refine CallsR.of_SX (n := 94) (rs := [.tmp 4]) Tryd.func29 rfl rfl rfl rfl ?_
  show SX _ _ _ ⟨[(0, .agg ⟨[.int .i64 x.weeks, .int .i64 x.most, .int .i64 x.fall, .int .i64 x.a0, .int .i64 x.a1, .int .i64 x.w0, .int .i64 x.w1, (.slice xb x.book.length xbc), (.slice xr x.reads.length xrc)]⟩), (1, .agg ⟨[.int .i64 y.weeks, .int .i64 y.most, .int .i64 y.fall, .int .i64 y.a0, .int .i64 y.a1, .int .i64 y.w0, .int .i64 y.w1, (.slice yb y.book.length ybc), (.slice yr y.reads.length yrc)]⟩)], [], []⟩
  refine SX.seq ?_
  refine SX.region ?_
  refine SXL.box rfl rfl ?_; intro b0
  refine SXL.box rfl rfl ?_; intro b1
  refine SXL.assign rfl ?_
  refine SXL.nil ?_
  refine thenQ.normal ?_
  refine SX.seq ?_
  refine SX.seq ?_
  refine SX.region ?_
  refine SXL.fieldAddr fp_27_0 rfl ?_
  refine SXL.load1o 0 sh_3 rfl rfl rfl ?_
  refine SXL.fieldAddr fp_27_0 rfl ?_
  refine SXL.load1o 1 sh_3 rfl rfl rfl ?_
  refine SXL.neqI rfl rfl ?_
  refine SXL.move rfl ?_
  apply SXL.orG 5
  case hl => exact rfl
  case hd => exact rfl
  case hg => exact rfl
  case ht =>
    intro g1
    refine SXL.pass rfl rfl rfl ?_
    refine SXL.pass rfl rfl rfl ?_
    refine SXL.pass rfl rfl rfl ?_
    refine SXL.pass rfl rfl rfl ?_
    refine SXL.pass rfl rfl rfl ?_
    exact SXL.nil (segQ.mk (.skip rfl (.skip rfl (.skip rfl (.skip rfl (.skip rfl (.skip rfl (EnvSub.refl _))))))) rfl rfl rfl)
  case hf =>
    intro g1
    refine SXL.fieldAddr fp_27_1 rfl ?_
    refine SXL.load1o 0 sh_3 rfl rfl rfl ?_
    refine SXL.fieldAddr fp_27_1 rfl ?_
    refine SXL.load1o 1 sh_3 rfl rfl rfl ?_
    refine SXL.neqI rfl rfl ?_
    exact SXL.nil (segQ.mk (.skip rfl (.skip rfl (.skip rfl (.skip rfl (.skip rfl (.skip rfl (EnvSub.refl _))))))) rfl rfl ⟨rfl, rfl⟩)
  refine SXL.move rfl ?_
  apply SXL.orG 5
  case hl => exact rfl
  case hd => exact rfl
  case hg => exact rfl
  case ht =>
    intro g2
    refine SXL.pass rfl rfl rfl ?_
    refine SXL.pass rfl rfl rfl ?_
    refine SXL.pass rfl rfl rfl ?_
    refine SXL.pass rfl rfl rfl ?_
    refine SXL.pass rfl rfl rfl ?_
    exact SXL.nil (segQ.mk (.skip rfl (.skip rfl (.skip rfl (.skip rfl (.skip rfl (.skip rfl (EnvSub.refl _))))))) rfl rfl rfl)
  case hf =>
    intro g2
    refine SXL.fieldAddr fp_27_2 rfl ?_
    refine SXL.load1o 0 sh_3 rfl rfl rfl ?_
    refine SXL.fieldAddr fp_27_2 rfl ?_
    refine SXL.load1o 1 sh_3 rfl rfl rfl ?_
    refine SXL.neqI rfl rfl ?_
    exact SXL.nil (segQ.mk (.skip rfl (.skip rfl (.skip rfl (.skip rfl (.skip rfl (.skip rfl (EnvSub.refl _))))))) rfl rfl ⟨rfl, rfl⟩)
  refine SXL.move rfl ?_
  apply SXL.orG 5
  case hl => exact rfl
  case hd => exact rfl
  case hg => exact rfl
  case ht =>
    intro g3
    refine SXL.pass rfl rfl rfl ?_
    refine SXL.pass rfl rfl rfl ?_
    refine SXL.pass rfl rfl rfl ?_
    refine SXL.pass rfl rfl rfl ?_
    refine SXL.pass rfl rfl rfl ?_
    exact SXL.nil (segQ.mk (.skip rfl (.skip rfl (.skip rfl (.skip rfl (.skip rfl (.skip rfl (EnvSub.refl _))))))) rfl rfl rfl)
  case hf =>
    intro g3
    refine SXL.fieldAddr fp_27_3 rfl ?_
    refine SXL.loadNo 0 sh_23 rfl rfl rfl ?_
    refine SXL.fieldAddr fp_27_3 rfl ?_
    refine SXL.loadNo 1 sh_23 rfl rfl rfl ?_
    refine SXL.neqV (p := [x.a0, x.a1] ≠ [y.a0, y.a1]) (u := .agg ⟨ints ([x.a0, x.a1])⟩) (v := .agg ⟨ints ([y.a0, y.a1])⟩) rfl rfl (run_neq_ints eq_23 eg_23 sh_23 rfl rfl) ?_
    exact SXL.nil (segQ.mk (.skip rfl (.skip rfl (.skip rfl (.skip rfl (.skip rfl (.skip rfl (EnvSub.refl _))))))) rfl rfl ⟨rfl, rfl⟩)
  refine SXL.move rfl ?_
  apply SXL.orG 5
  case hl => exact rfl
  case hd => exact rfl
  case hg => exact rfl
  case ht =>
    intro g4
    refine SXL.pass rfl rfl rfl ?_
    refine SXL.pass rfl rfl rfl ?_
    refine SXL.pass rfl rfl rfl ?_
    refine SXL.pass rfl rfl rfl ?_
    refine SXL.pass rfl rfl rfl ?_
    exact SXL.nil (segQ.mk (.skip rfl (.skip rfl (.skip rfl (.skip rfl (.skip rfl (.skip rfl (EnvSub.refl _))))))) rfl rfl rfl)
  case hf =>
    intro g4
    refine SXL.fieldAddr fp_27_4 rfl ?_
    refine SXL.loadNo 0 sh_23 rfl rfl rfl ?_
    refine SXL.fieldAddr fp_27_4 rfl ?_
    refine SXL.loadNo 1 sh_23 rfl rfl rfl ?_
    refine SXL.neqV (p := [x.w0, x.w1] ≠ [y.w0, y.w1]) (u := .agg ⟨ints ([x.w0, x.w1])⟩) (v := .agg ⟨ints ([y.w0, y.w1])⟩) rfl rfl (run_neq_ints eq_23 eg_23 sh_23 rfl rfl) ?_
    exact SXL.nil (segQ.mk (.skip rfl (.skip rfl (.skip rfl (.skip rfl (.skip rfl (.skip rfl (EnvSub.refl _))))))) rfl rfl ⟨rfl, rfl⟩)
  refine SXL.move rfl ?_
  apply SXL.orG 7
  case hl => exact rfl
  case hd => exact rfl
  case hg => exact rfl
  case ht =>
    intro g5
    refine SXL.pass rfl rfl rfl ?_
    refine SXL.pass rfl rfl rfl ?_
    refine SXL.pass rfl rfl rfl ?_
    refine SXL.pass rfl rfl rfl ?_
    refine SXL.pass rfl rfl rfl ?_
    refine SXL.pass rfl rfl rfl ?_
    refine SXL.pass rfl rfl rfl ?_
    exact SXL.nil (segQ.mk (.skip rfl (.skip rfl (.skip rfl (.skip rfl (.skip rfl (.skip rfl (.skip rfl (.skip rfl (EnvSub.refl _))))))))) rfl rfl rfl)
  case hf =>
    intro g5
    refine SXL.fieldAddr fp_27_5 rfl ?_
    refine SXL.load1o 0 sh_24 rfl rfl rfl ?_
    refine SXL.len is_24 rfl ?_
    refine SXL.fieldAddr fp_27_5 rfl ?_
    refine SXL.load1o 1 sh_24 rfl rfl rfl ?_
    refine SXL.len is_24 rfl ?_
    refine SXL.neqI rfl rfl ?_
    exact SXL.nil (segQ.mk (.skip rfl (.skip rfl (.skip rfl (.skip rfl (.skip rfl (.skip rfl (.skip rfl (.skip rfl (EnvSub.refl _))))))))) rfl rfl ⟨rfl, rfl⟩)
  refine SXL.move rfl ?_
  apply SXL.orG 7
  case hl => exact rfl
  case hd => exact rfl
  case hg => exact rfl
  case ht =>
    intro c57
    refine SXL.pass rfl rfl rfl ?_
    refine SXL.pass rfl rfl rfl ?_
    refine SXL.pass rfl rfl rfl ?_
    refine SXL.pass rfl rfl rfl ?_
    refine SXL.pass rfl rfl rfl ?_
    refine SXL.pass rfl rfl rfl ?_
    refine SXL.pass rfl rfl rfl ?_
    exact SXL.nil (segQ.mk (.skip rfl (.skip rfl (.skip rfl (.skip rfl (.skip rfl (.skip rfl (.skip rfl (.skip rfl (EnvSub.refl _))))))))) rfl rfl rfl)
  case hf =>
    intro c57
    refine SXL.fieldAddr fp_27_6 rfl ?_
    refine SXL.load1o 0 sh_25 rfl rfl rfl ?_
    refine SXL.len is_25 rfl ?_
    refine SXL.fieldAddr fp_27_6 rfl ?_
    refine SXL.load1o 1 sh_25 rfl rfl rfl ?_
    refine SXL.len is_25 rfl ?_
    refine SXL.neqI rfl rfl ?_
    exact SXL.nil (segQ.mk (.skip rfl (.skip rfl (.skip rfl (.skip rfl (.skip rfl (.skip rfl (.skip rfl (.skip rfl (EnvSub.refl _))))))))) rfl rfl ⟨rfl, rfl⟩)
  refine SXL.nil ?_
  refine thenQ.normal ?_
  refine SX.condP rfl (fun c57 => ?_) (fun c57 => ?_)
  · refine SX.seq ?_
    refine SX.region ?_
    refine SXL.assign rfl ?_
    refine SXL.nil ?_
    refine thenQ.normal ?_
    refine SX.ret ?_
    refine thenQ.ret ?_
    refine retQ.one (ResAt.tmp rfl) ?_
    exact congrArg Value.bool (decide_eq_false (by intro h; subst h; simp at c57)).symm
  · refine SX.skip ?_
    refine thenQ.normal ?_
    refine SX.seq ?_
    refine SX.seq ?_
    refine SX.region ?_
    refine SXL.assign rfl ?_
    refine SXL.nil ?_
    refine thenQ.normal ?_
    refine SX.block ?_
    refine SX.loopG (α := Nat) [2, 3, 4] rfl (fun k => [(5, .int .i64 ((k : Int)))]) (fun k => []) (fun k => k ≤ x.book.length ∧ ∀ i, i < k → x.book.getD i default = y.book.getD i default) (fun k => x.book.length - k) 0 ⟨Nat.zero_le _, fun _ h => absurd h (Nat.not_lt_zero _)⟩ ⟨rfl, trivial⟩ rfl ?_
    rintro k ⟨hk, hall⟩
    refine SX.seq ?_
    refine SX.seq ?_
    refine SX.region ?_
    refine SXL.move rfl ?_
    refine SXL.fieldAddr fp_27_5 rfl ?_
    refine SXL.load1o 0 sh_24 rfl rfl rfl ?_
    refine SXL.len is_24 rfl ?_
    refine SXL.lss rfl rfl ?_
    refine SXL.nil ?_
    refine thenQ.normal ?_
    refine SX.condP rfl (fun c62 => ?_) (fun c62 => ?_)
    · refine SX.skip ?_
      refine thenQ.normal ?_
      refine SX.seq ?_
      refine SX.block ?_
      refine SX.seq ?_
      obtain ⟨b, o, ha, hm⟩ := hx.lineD (i := k) (by omega)
      obtain ⟨b2, o2, ha2, hn⟩ := hy.lineD (i := k) (by omega)
      refine SX.draw 11 (by kernel_rfl) (by kernel_rfl) {} ?_
      refine SXA.take 0 11 rfl (by kernel_rfl) rfl ?_
      refine SXL.fieldAddr fp_27_5 rfl ?_
      refine SXL.load1o 0 sh_24 rfl rfl rfl ?_
      refine SXL.move rfl ?_
      refine SXL.indexR el_24 rfl rfl ha (by omega) ?_
      refine SXL.loadN sh_61 rfl (hm _) rfl ?_
      refine SXL.fieldAddr fp_27_5 rfl ?_
      refine SXL.load1o 1 sh_24 rfl rfl rfl ?_
      refine SXL.move rfl ?_
      refine SXL.indexR el_24 rfl rfl ha2 (by omega) ?_
      refine SXL.loadN sh_61 rfl (hn _) rfl ?_
      refine SXL.neqV (p := (x.book.getD k default).ints ≠ (y.book.getD k default).ints) (u := .agg ⟨ints ((x.book.getD k default).ints)⟩) (v := .agg ⟨ints ((y.book.getD k default).ints)⟩) rfl rfl (run_neq_ints eq_61 eg_61 sh_61 rfl rfl) ?_
      refine SXL.nil ⟨rfl, rfl, rfl, ?_⟩
      refine SXA.done (by kernel_rfl) ?_
      refine SXL.nil ?_
      refine thenQ.normal ?_
      refine SX.condP rfl (fun c75 => ?_) (fun c75 => ?_)
      · refine SX.seq ?_
        refine SX.region ?_
        refine SXL.assign rfl ?_
        refine SXL.nil ?_
        refine thenQ.normal ?_
        refine SX.ret ?_
        refine blockQ.ret ?_
        refine thenQ.ret ?_
        refine thenQ.ret ?_
        refine blockQ.ret ?_
        refine thenQ.ret ?_
        refine retQ.one (ResAt.tmp rfl) ?_
        exact congrArg Value.bool (decide_eq_false (by intro h; subst h; exact c75 rfl)).symm
      · refine SX.skip ?_
        refine blockQ.normal ?_
        refine thenQ.normal ?_
        refine SX.region ?_
        refine SXL.move rfl ?_
        refine SXL.add rfl rfl (by omega) ?_
        refine SXL.assign rfl ?_
        refine SXL.nil ?_
        refine thenQ.normal ?_
        refine ⟨k + 1, Meets.mk _ ⟨rfl, trivial⟩ ⟨rfl, rfl, rfl, trivial⟩ rfl, ?_, (by omega)⟩
        refine ⟨by omega, fun i hi => ?_⟩
        by_cases e : i = k
        · subst e; exact Ln.ints_inj.1 (Decidable.not_not.1 c75)
        · exact hall i (by omega)
    · refine SX.exit ?_
      refine thenQ.exit ?_
      refine thenQ.exit ?_
      refine blockQ.exit ?_
      refine thenQ.normal ?_
      refine SX.seq ?_
      refine SX.seq ?_
      refine SX.region ?_
      refine SXL.assign rfl ?_
      refine SXL.nil ?_
      refine thenQ.normal ?_
      refine SX.block ?_
      refine SX.loopG (α := Nat) [2, 3, 4] rfl (fun k => [(6, .int .i64 ((k : Int)))]) (fun k => []) (fun k => k ≤ x.reads.length ∧ ∀ i, i < k → x.reads.getD i default = y.reads.getD i default) (fun k => x.reads.length - k) 0 ⟨Nat.zero_le _, fun _ h => absurd h (Nat.not_lt_zero _)⟩ ⟨rfl, trivial⟩ rfl ?_
      rintro k ⟨hk2, hall2⟩
      refine SX.seq ?_
      refine SX.seq ?_
      refine SX.region ?_
      refine SXL.move rfl ?_
      refine SXL.fieldAddr fp_27_6 rfl ?_
      refine SXL.load1o 0 sh_25 rfl rfl rfl ?_
      refine SXL.len is_25 rfl ?_
      refine SXL.lss rfl rfl ?_
      refine SXL.nil ?_
      refine thenQ.normal ?_
      refine SX.condP rfl (fun c80 => ?_) (fun c80 => ?_)
      · refine SX.skip ?_
        refine thenQ.normal ?_
        refine SX.seq ?_
        refine SX.block ?_
        refine SX.seq ?_
        obtain ⟨b, o, ha, hm⟩ := hx.readD (i := k) (by omega)
        obtain ⟨b2, o2, ha2, hn⟩ := hy.readD (i := k) (by omega)
        refine SX.draw 11 (by kernel_rfl) (by kernel_rfl) {} ?_
        refine SXA.take 0 11 rfl (by kernel_rfl) rfl ?_
        refine SXL.fieldAddr fp_27_6 rfl ?_
        refine SXL.load1o 0 sh_25 rfl rfl rfl ?_
        refine SXL.move rfl ?_
        refine SXL.indexR el_25 rfl rfl ha (by omega) ?_
        refine SXL.loadN sh_54 rfl (hm _) rfl ?_
        refine SXL.fieldAddr fp_27_6 rfl ?_
        refine SXL.load1o 1 sh_25 rfl rfl rfl ?_
        refine SXL.move rfl ?_
        refine SXL.indexR el_25 rfl rfl ha2 (by omega) ?_
        refine SXL.loadN sh_54 rfl (hn _) rfl ?_
        refine SXL.neqV (p := (x.reads.getD k default).ints ≠ (y.reads.getD k default).ints) (u := .agg ⟨ints ((x.reads.getD k default).ints)⟩) (v := .agg ⟨ints ((y.reads.getD k default).ints)⟩) rfl rfl (run_neq_ints eq_54 eg_54 sh_54 rfl rfl) ?_
        refine SXL.nil ⟨rfl, rfl, rfl, ?_⟩
        refine SXA.done (by kernel_rfl) ?_
        refine SXL.nil ?_
        refine thenQ.normal ?_
        refine SX.condP rfl (fun c93 => ?_) (fun c93 => ?_)
        · refine SX.seq ?_
          refine SX.region ?_
          refine SXL.assign rfl ?_
          refine SXL.nil ?_
          refine thenQ.normal ?_
          refine SX.ret ?_
          refine blockQ.ret ?_
          refine thenQ.ret ?_
          refine thenQ.ret ?_
          refine blockQ.ret ?_
          refine thenQ.ret ?_
          refine retQ.one (ResAt.tmp rfl) ?_
          exact congrArg Value.bool (decide_eq_false (by intro h; subst h; exact c93 rfl)).symm
        · refine SX.skip ?_
          refine blockQ.normal ?_
          refine thenQ.normal ?_
          refine SX.region ?_
          refine SXL.move rfl ?_
          refine SXL.add rfl rfl (by omega) ?_
          refine SXL.assign rfl ?_
          refine SXL.nil ?_
          refine thenQ.normal ?_
          refine ⟨k + 1, Meets.mk _ ⟨rfl, trivial⟩ ⟨rfl, rfl, rfl, trivial⟩ rfl, ?_, (by omega)⟩
          refine ⟨by omega, fun i hi => ?_⟩
          by_cases e : i = k
          · subst e; exact Rd.ints_inj.1 (Decidable.not_not.1 c93)
          · exact hall2 i (by omega)
      · refine SX.exit ?_
        refine thenQ.exit ?_
        refine thenQ.exit ?_
        refine blockQ.exit ?_
        refine thenQ.normal ?_
        refine SX.seq ?_
        refine SX.region ?_
        refine SXL.assign rfl ?_
        refine SXL.nil ?_
        refine thenQ.normal ?_
        refine SX.ret ?_
        refine retQ.one (ResAt.tmp rfl) ?_
        exact congrArg Value.bool (decide_eq_true (sp_ext (by simp at c57; omega) (fun i hi => hall i (by omega)) (fun i hi => hall2 i (by omega)))).symm
theorem twin_any (s : Sp) (bo ro : Option Addr) (bc rc : Nat) (hm1 : s.book.length ≤ 1000000) (hm2 : s.reads.length ≤ 1000000) (w : World) (hs : SpAt w s bo ro) :
    CallsR Tryd.prog 17 [.agg ⟨[.int .i64 s.weeks, .int .i64 s.most, .int .i64 s.fall, .int .i64 s.a0, .int .i64 s.a1, .int .i64 s.w0, .int .i64 s.w1, (.slice bo s.book.length bc), (.slice ro s.reads.length rc)]⟩] w (SpR s) := by
  refine CallsR.of_SX (n := 14) (rs := [.cell 2 27]) Tryd.func17 rfl rfl rfl rfl ?_
  show SX _ _ _ ⟨[(0, .agg ⟨[.int .i64 s.weeks, .int .i64 s.most, .int .i64 s.fall, .int .i64 s.a0, .int .i64 s.a1, .int .i64 s.w0, .int .i64 s.w1, (.slice bo s.book.length bc), (.slice ro s.reads.length rc)]⟩)], [], []⟩
  refine SX.seq ?_
  refine SX.region ?_
  refine SXL.box rfl rfl ?_; intro b0
  refine SXL.alloc zp_27 ?_; intro b1
  refine SXL.nil ?_
  refine thenQ.normal ?_
  refine SX.seq ?_
  refine SX.draw 9 (by kernel_rfl) (by kernel_rfl) {} ?_
  refine SXA.take 1 2 rfl (by kernel_rfl) rfl ?_
  refine SXL.fieldAddr fp_27_5 rfl ?_
  refine SXL.load1o 0 sh_24 rfl rfl rfl ?_
  refine SXL.nil ⟨rfl, rfl, rfl, ?_⟩
  refine SXA.take 5 2 rfl (by kernel_rfl) rfl ?_
  refine SXL.fieldAddr fp_27_6 rfl ?_
  refine SXL.load1o 0 sh_25 rfl rfl rfl ?_
  refine SXL.nil ⟨rfl, rfl, rfl, ?_⟩
  refine SXA.all [0, 4] (by kernel_rfl) rfl ⟨⟨?_, rfl⟩, ⟨?_, rfl⟩, trivial⟩
  · refine (show SXL _ _ [_] _ _ from ?_)
    refine SXL.buildSlice0 et_24 ?_; intro b2
    refine SXL.nil (stepQ.mk _ rfl rfl ?_)
    refine SXA.all [3, 4] (by kernel_rfl) rfl ⟨⟨?_, rfl⟩, ⟨?_, rfl⟩, trivial⟩
    · refine (show SXL _ _ [_] _ _ from ?_)
      refine SXL.appendE (some b2) ap_24 rfl rfl (hs.bookSrc _) (bookC_len _) (bookC_one _) ⟨by simp only [maxLen]; omega, by omega⟩ ?_; intro r_6 o_6
      refine SXL.nil (stepQ.mk _ rfl rfl ?_)
      refine SXA.take 8 1 rfl (by kernel_rfl) rfl ?_
      refine SXL.fieldAddr fp_27_5 rfl ?_
      refine SXL.nil ⟨rfl, rfl, rfl, ?_⟩
      refine SXA.all [4] (by kernel_rfl) rfl ⟨⟨?_, rfl⟩, trivial⟩
      refine (show SXL _ _ [_] _ _ from ?_)
      refine SXL.buildSlice0 et_25 ?_; intro b4
      refine SXL.nil (stepQ.mk _ rfl rfl ?_)
      refine SXA.all [7] (by kernel_rfl) rfl ⟨⟨?_, rfl⟩, trivial⟩
      refine (show SXL _ _ [_] _ _ from ?_)
      refine SXL.appendE (some b4) ap_25 rfl rfl (hs.readsSrc _) (readsC_len _) (readsC_one _) ⟨by simp only [maxLen]; omega, by omega⟩ ?_; intro r_10 o_10
      refine SXL.nil (stepQ.mk _ rfl rfl ?_)
      refine SXA.done (by kernel_rfl) ?_
      refine SXL.store 0 sz_24 rfl rfl rfl rfl rfl rfl ?_
      refine SXL.fieldAddr fp_27_6 rfl ?_
      refine SXL.store 0 sz_25 rfl rfl rfl rfl rfl rfl ?_
      refine SXL.nil ?_
      refine thenQ.normal ?_
      refine SX.seq ?_
      refine SX.region ?_
      refine SXL.loadNo 0 sh_27 rfl rfl rfl ?_
      refine SXL.store 1 sz_27 rfl rfl rfl rfl rfl rfl ?_
      refine SXL.nil ?_
      refine thenQ.normal ?_
      refine SX.ret ?_
      refine retQ.sel [3, 5] rfl rfl ?_
      refine retQ.one (ResAt.cellNo 1 sh_27 rfl rfl rfl) ?_
      exact ⟨r_6, r_10, o_6, o_10, rfl, rfl⟩
    · refine (show SXL _ _ [_] _ _ from ?_)
      refine SXL.buildSlice0 et_25 ?_; intro b3
      refine SXL.nil (stepQ.mk _ rfl rfl ?_)
      refine SXA.all [3] (by kernel_rfl) rfl ⟨⟨?_, rfl⟩, trivial⟩
      refine (show SXL _ _ [_] _ _ from ?_)
      refine SXL.appendE (some b2) ap_24 rfl rfl (hs.bookSrc _) (bookC_len _) (bookC_one _) ⟨by simp only [maxLen]; omega, by omega⟩ ?_; intro r_6 o_6
      refine SXL.nil (stepQ.mk _ rfl rfl ?_)
      refine SXA.take 8 1 rfl (by kernel_rfl) rfl ?_
      refine SXL.fieldAddr fp_27_5 rfl ?_
      refine SXL.nil ⟨rfl, rfl, rfl, ?_⟩
      refine SXA.all [7] (by kernel_rfl) rfl ⟨⟨?_, rfl⟩, trivial⟩
      refine (show SXL _ _ [_] _ _ from ?_)
      refine SXL.appendE (some b3) ap_25 rfl rfl (hs.readsSrc _) (readsC_len _) (readsC_one _) ⟨by simp only [maxLen]; omega, by omega⟩ ?_; intro r_10 o_10
      refine SXL.nil (stepQ.mk _ rfl rfl ?_)
      refine SXA.done (by kernel_rfl) ?_
      refine SXL.store 0 sz_24 rfl rfl rfl rfl rfl rfl ?_
      refine SXL.fieldAddr fp_27_6 rfl ?_
      refine SXL.store 0 sz_25 rfl rfl rfl rfl rfl rfl ?_
      refine SXL.nil ?_
      refine thenQ.normal ?_
      refine SX.seq ?_
      refine SX.region ?_
      refine SXL.loadNo 0 sh_27 rfl rfl rfl ?_
      refine SXL.store 1 sz_27 rfl rfl rfl rfl rfl rfl ?_
      refine SXL.nil ?_
      refine thenQ.normal ?_
      refine SX.ret ?_
      refine retQ.sel [4, 5] rfl rfl ?_
      refine retQ.one (ResAt.cellNo 1 sh_27 rfl rfl rfl) ?_
      exact ⟨r_6, r_10, o_6, o_10, rfl, rfl⟩
  · refine (show SXL _ _ [_] _ _ from ?_)
    refine SXL.buildSlice0 et_25 ?_; intro b2
    refine SXL.nil (stepQ.mk _ rfl rfl ?_)
    refine SXA.all [0] (by kernel_rfl) rfl ⟨⟨?_, rfl⟩, trivial⟩
    refine (show SXL _ _ [_] _ _ from ?_)
    refine SXL.buildSlice0 et_24 ?_; intro b3
    refine SXL.nil (stepQ.mk _ rfl rfl ?_)
    refine SXA.all [3] (by kernel_rfl) rfl ⟨⟨?_, rfl⟩, trivial⟩
    refine (show SXL _ _ [_] _ _ from ?_)
    refine SXL.appendE (some b3) ap_24 rfl rfl (hs.bookSrc _) (bookC_len _) (bookC_one _) ⟨by simp only [maxLen]; omega, by omega⟩ ?_; intro r_6 o_6
    refine SXL.nil (stepQ.mk _ rfl rfl ?_)
    refine SXA.take 8 1 rfl (by kernel_rfl) rfl ?_
    refine SXL.fieldAddr fp_27_5 rfl ?_
    refine SXL.nil ⟨rfl, rfl, rfl, ?_⟩
    refine SXA.all [7] (by kernel_rfl) rfl ⟨⟨?_, rfl⟩, trivial⟩
    refine (show SXL _ _ [_] _ _ from ?_)
    refine SXL.appendE (some b2) ap_25 rfl rfl (hs.readsSrc _) (readsC_len _) (readsC_one _) ⟨by simp only [maxLen]; omega, by omega⟩ ?_; intro r_10 o_10
    refine SXL.nil (stepQ.mk _ rfl rfl ?_)
    refine SXA.done (by kernel_rfl) ?_
    refine SXL.store 0 sz_24 rfl rfl rfl rfl rfl rfl ?_
    refine SXL.fieldAddr fp_27_6 rfl ?_
    refine SXL.store 0 sz_25 rfl rfl rfl rfl rfl rfl ?_
    refine SXL.nil ?_
    refine thenQ.normal ?_
    refine SX.seq ?_
    refine SX.region ?_
    refine SXL.loadNo 0 sh_27 rfl rfl rfl ?_
    refine SXL.store 1 sz_27 rfl rfl rfl rfl rfl rfl ?_
    refine SXL.nil ?_
    refine thenQ.normal ?_
    refine SX.ret ?_
    refine retQ.sel [4, 5] rfl rfl ?_
    refine retQ.one (ResAt.cellNo 1 sh_27 rfl rfl rfl) ?_
    exact ⟨r_6, r_10, o_6, o_10, rfl, rfl⟩
end Go.Proofs.YtknflipongbngaaDoor

/- The walks of functions. -/
namespace Go.Proofs.YtknflipongbngaaDoor
open Go.X Go.S Go.RowKit
theorem mk_173 : mapKB Tryd.prog 173 = true := by kernel_rfl
theorem cloneLines (s : Sp) (ao : Option Addr) (c : Nat) (hl : s.book.length ≤ 1000000) (w : World) (h : RowsAt w ao 5 (s.book.map Ln.cells)) :
    CallsR Tryd.prog 122 [.slice ao s.book.length c] w (IsB s) := by
  refine CallsR.of_SX (n := 8) (rs := [.tmp 2]) Tryd.func122 rfl rfl rfl rfl ?_
  show SX _ _ _ ⟨[(0, .slice ao s.book.length c)], [], []⟩
  refine SX.seq ?_
  refine SX.region ?_
  refine SXL.assign rfl ?_
  refine SXL.nil ?_
  refine thenQ.normal ?_
  refine SX.seq ?_
  refine SX.seq ?_
  refine SX.region ?_
  refine SXL.move rfl ?_
  refine SXL.eqlS is_24 rfl rfl ?_
  refine SXL.nil ?_
  refine thenQ.normal ?_
  refine SX.condP rfl (fun c4 => ?_) (fun c4 => ?_)
  · refine SX.seq ?_
    subst c4
    refine SX.region ?_
    refine SXL.assign rfl ?_
    refine SXL.nil ?_
    refine thenQ.normal ?_
    refine SX.ret ?_
    refine thenQ.ret ?_
    refine retQ.dead [Sl.nil.ent 61 []] rfl ?_
    refine retQ.one (ResAt.tmp rfl) ?_
    have hl0 : s.book = [] := by
      rcases h with h | ⟨b, o, h, _⟩
      · simpa using h
      · cases h
    have e : bookC s = [] := by rw [bookC, hl0]; rfl
    exact ⟨Sl.nil, by rw [e, hl0]; exact .none _, by rw [hl0]; rfl, by rw [e]⟩
  · refine SX.skip ?_
    refine thenQ.normal ?_
    refine SX.seq ?_
    refine SX.region ?_
    refine SXL.buildSlice0 et_24 ?_; intro b0
    refine SXL.move rfl ?_
    refine SXL.appendE (some b0) ap_24 rfl rfl (linesSrc h _) (bookC_len s) (bookC_one s) ⟨by simp only [maxLen]; omega, by omega⟩ ?_; intro r_7 o_7
    refine SXL.assign rfl ?_
    refine SXL.nil ?_
    refine thenQ.normal ?_
    refine SX.ret ?_
    refine retQ.sel [1] rfl rfl ?_
    refine retQ.one (ResAt.tmp rfl) ?_
    exact ⟨r_7, o_7, rfl, rfl⟩
theorem numbers_any (s : Sp) (bo ro : Option Addr) (bc rc : Nat) (_hb : s.book.length ≤ 1000000) (hr : s.reads.length ≤ 1000000) (w : World) (hs : SpAt w s bo ro) :
    CallsR Tryd.prog 83 [.agg ⟨[.int .i64 s.weeks, .int .i64 s.most, .int .i64 s.fall, .int .i64 s.a0, .int .i64 s.a1, .int .i64 s.w0, .int .i64 s.w1, (.slice bo s.book.length bc), (.slice ro s.reads.length rc)]⟩] w (IsI (numsL s)) := by
  refine CallsR.of_SX (n := 20) (rs := [.tmp 2]) Tryd.func83 rfl rfl rfl rfl ?_
  show SX _ _ _ ⟨[(0, .agg ⟨[.int .i64 s.weeks, .int .i64 s.most, .int .i64 s.fall, .int .i64 s.a0, .int .i64 s.a1, .int .i64 s.w0, .int .i64 s.w1, (.slice bo s.book.length bc), (.slice ro s.reads.length rc)]⟩)], [], []⟩
  refine SX.seq ?_
  refine SX.region ?_
  refine SXL.box rfl rfl ?_; intro b0
  refine SXL.assign rfl ?_
  refine SXL.nil ?_
  refine thenQ.normal ?_
  refine SX.seq ?_
  refine SX.pad (Sl.nil.ent 3 []) rfl ?_
  refine SX.region ?_
  refine SXL.assign rfl ?_
  refine SXL.nil ?_
  refine thenQ.normal ?_
  refine SX.seq ?_
  refine SX.seq ?_
  refine SX.region ?_
  refine SXL.fieldAddr fp_27_6 rfl ?_
  refine SXL.load1o 0 sh_25 rfl rfl rfl ?_
  refine SXL.len is_25 rfl ?_
  refine SXL.move rfl ?_
  refine SXL.nil ?_
  refine thenQ.normal ?_
  refine SX.block ?_
  refine SX.loopG (α := Nat × Sl × Nat × List Value) [2, 7, 8] rfl (fun ⟨k, q, n, c⟩ => [(9, .int .i64 ((k : Int))), (3, q.val n)]) (fun ⟨k, q, n, c⟩ => [(1, q.ent 3 c)]) (fun ⟨k, q, n, c⟩ => k ≤ s.reads.length ∧ q.Ok n 1 c ∧ c = ints ((s.reads.take k).map (·.num))) (fun ⟨k, q, n, c⟩ => s.reads.length - k) (0, Sl.nil, 0, []) ⟨Nat.zero_le _, .none _, rfl⟩ ⟨rfl, rfl, trivial⟩ rfl ?_
  rintro ⟨k, q, n, c⟩ ⟨hkl, ho, rfl⟩
  have hn1 := Ok.n ho
  rw [List.length_map, List.length_take] at hn1
  refine SX.seq ?_
  refine SX.region ?_
  refine SXL.lss rfl rfl ?_
  refine SXL.nil ?_
  refine thenQ.normal ?_
  refine SX.seq ?_
  refine SX.condP rfl (fun c1 => ?_) (fun c1 => ?_)
  · refine SX.skip ?_
    refine thenQ.normal ?_
    refine SX.seq ?_
    refine SX.block ?_
    refine SX.seq ?_
    have hk : k < s.reads.length := by omega
    obtain ⟨b, o, ha, hm⟩ := hs.readD hk
    refine SX.region ?_
    refine SXL.indexR el_25 rfl rfl ha (by omega) ?_
    refine SXL.loadN sh_54 rfl (hm _) rfl ?_
    refine SXL.alloc zp_54 ?_; intro b2
    refine SXL.store 2 sz_54 rfl rfl rfl rfl rfl rfl ?_
    refine SXL.nil ?_
    refine thenQ.normal ?_
    refine SX.region ?_
    refine SXL.move rfl ?_
    refine SXL.fieldAddr fp_54_0 rfl ?_
    refine SXL.load1o 2 sh_3 rfl rfl rfl ?_
    refine SXL.buildSlice et_35 zp_3 rfl rfl rfl rfl ?_; intro b3
    refine SXL.append 1 ap_35 rfl rfl ho rfl (.inr ⟨_, _, rfl, Mem.own (i := 3) rfl (takeAt_all _)⟩) rfl rfl ⟨by simp only [maxLen]; omega, by omega⟩ ?_; intro r_17 o_17
    refine SXL.assign rfl ?_
    refine SXL.nil ?_
    refine blockQ.normal ?_
    refine thenQ.normal ?_
    refine SX.region ?_
    refine SXL.add rfl rfl (by omega) ?_
    refine SXL.move rfl ?_
    refine SXL.nil ?_
    refine thenQ.normal ?_
    refine ⟨(k + 1, _, _, _), Meets.mk _ ⟨rfl, rfl, trivial⟩ ⟨rfl, rfl, rfl, trivial⟩ rfl, ⟨by omega, o_17, by rw [take_snoc hk]; simp [ints]⟩, (show s.reads.length - (k + 1) < s.reads.length - k by omega)⟩
  · refine SX.exit ?_
    refine thenQ.exit ?_
    refine thenQ.exit ?_
    refine blockQ.exit ?_
    refine thenQ.normal ?_
    refine SX.seq ?_
    obtain rfl : k = s.reads.length := by omega
    refine SX.region ?_
    refine SXL.move rfl ?_
    refine SXL.assign rfl ?_
    refine SXL.nil ?_
    refine thenQ.normal ?_
    refine SX.ret ?_
    refine retQ.sel [1] rfl rfl ?_
    refine retQ.one (ResAt.tmp rfl) ?_
    have e2 := Ok.n ho; subst e2; rw [List.take_length] at ho ⊢; exact ⟨q, ho, rfl, rfl⟩
set_option maxHeartbeats 2000000 in
theorem rwithout_any (s : Sp) (bo ro : Option Addr) (bc rc : Nat) (ns : List Int) (ao : Option Addr) (nc : Nat) (hn : ns.length ≤ 1000000) (hb : s.book.length ≤ 1000000) (hr : s.reads.length ≤ 1000000) (w : World) (hs : SpAt w s bo ro) (ha0 : RowsAt w ao 1 (ones ns)) :
    CallsR Tryd.prog 85 [.agg ⟨[.int .i64 s.weeks, .int .i64 s.most, .int .i64 s.fall, .int .i64 s.a0, .int .i64 s.a1, .int .i64 s.w0, .int .i64 s.w1, (.slice bo s.book.length bc), (.slice ro s.reads.length rc)]⟩, .slice ao ns.length nc] w (SpR (wo s ns)) := by
  refine CallsR.of_SX (n := 45) (rs := [.cell 4 27]) Tryd.func85 rfl rfl rfl rfl ?_
  show SX _ _ _ ⟨[(0, .agg ⟨[.int .i64 s.weeks, .int .i64 s.most, .int .i64 s.fall, .int .i64 s.a0, .int .i64 s.a1, .int .i64 s.w0, .int .i64 s.w1, (.slice bo s.book.length bc), (.slice ro s.reads.length rc)]⟩), (1, .slice ao ns.length nc)], [], []⟩
  refine SX.seq ?_
  refine SX.region ?_
  refine SXL.box rfl rfl ?_; intro b0
  refine SXL.alloc zp_27 ?_; intro b1
  refine SXL.nil ?_
  refine thenQ.normal ?_
  refine SX.seq ?_
  refine SX.region ?_
  refine SXL.loadNo 0 sh_27 rfl rfl rfl ?_
  refine SXL.callF (SpR s) fn_17 rfl (fun w hI => twin_any s bo ro bc rc hb hr w (hs.inv hI)) ?_; rintro _ _ ⟨r1, r2, o1, o2, rfl, rfl⟩
  refine SXL.alloc zp_27 ?_; intro b4
  refine SXL.store 4 sz_27 rfl rfl rfl rfl rfl rfl ?_
  refine SXL.nil ?_
  refine thenQ.normal ?_
  refine SX.seq ?_
  refine SX.region ?_
  refine SXL.fieldAddr fp_27_6 rfl ?_
  refine SXL.store 4 sz_25 rfl rfl rfl rfl rfl rfl ?_
  refine SXL.nil ?_
  refine thenQ.normal ?_
  refine SX.seq ?_
  refine SX.seq ?_
  refine SX.pad (Sl.nil.ent 54 []) rfl ?_
  refine SX.region ?_
  refine SXL.fieldAddr fp_27_6 rfl ?_
  refine SXL.load1o 0 sh_25 rfl rfl rfl ?_
  refine SXL.len is_25 rfl ?_
  refine SXL.move rfl ?_
  refine SXL.nil ?_
  refine thenQ.normal ?_
  refine SX.block ?_
  refine SX.loopG (α := Nat × Sl × Nat × List Value) [1, 4, 5, 15, 16] rfl (fun ⟨k, q, n, c⟩ => [(17, .int .i64 ((k : Int)))]) (fun ⟨k, q, n, c⟩ => [(4, (b4, .cells ⟨[.int .i64 s.weeks, .int .i64 s.most, .int .i64 s.fall, .int .i64 s.a0, .int .i64 s.a1, .int .i64 s.w0, .int .i64 s.w1, r1.val s.book.length, q.val n]⟩ 27 (0, 0))), (5, q.ent 54 c)]) (fun ⟨k, q, n, c⟩ => k ≤ s.reads.length ∧ q.Ok n 5 c ∧ c = (rdC (keepR (s.reads.take k) ns)) ∧ n = (keepR (s.reads.take k) ns).length) (fun ⟨k, q, n, c⟩ => s.reads.length - k) (0, Sl.nil, 0, []) ⟨Nat.zero_le _, .none _, rfl, rfl⟩ ⟨rfl, trivial⟩ rfl ?_
  rintro ⟨k, q, n, c⟩ ⟨hkl, ho, rfl, hn2⟩
  have hkl2 := keepR_len (s.reads.take k) ns
  rw [List.length_take] at hkl2
  refine SX.seq ?_
  refine SX.region ?_
  refine SXL.lss rfl rfl ?_
  refine SXL.nil ?_
  refine thenQ.normal ?_
  refine SX.seq ?_
  refine SX.condP rfl (fun c1 => ?_) (fun c1 => ?_)
  · refine SX.skip ?_
    refine thenQ.normal ?_
    refine SX.seq ?_
    refine SX.block ?_
    refine SX.seq ?_
    have hk : k < s.reads.length := by omega
    obtain ⟨b, o, ha, hm⟩ := hs.readD hk
    refine SX.region ?_
    refine SXL.indexR el_25 rfl rfl ha (by omega) ?_
    refine SXL.loadN sh_54 rfl (hm _) rfl ?_
    refine SXL.alloc zp_54 ?_; intro b6
    refine SXL.store 6 sz_54 rfl rfl rfl rfl rfl rfl ?_
    refine SXL.nil ?_
    refine thenQ.normal ?_
    refine SX.seq ?_
    refine SX.region ?_
    refine SXL.assign rfl ?_
    refine SXL.nil ?_
    refine thenQ.normal ?_
    refine SX.seq ?_
    refine SX.seq ?_
    refine SX.region ?_
    refine SXL.move rfl ?_
    refine SXL.len is_35 rfl ?_
    refine SXL.move rfl ?_
    refine SXL.nil ?_
    refine thenQ.normal ?_
    refine SX.block ?_
    refine SX.loopG (α := Nat) [1, 4, 5, 7, 15, 16, 17, 21, 22] rfl (fun j => [(23, .int .i64 ((j : Int))), (8, .bool (decide ((s.reads.getD k default).num ∈ ns.take j)))]) (fun j => []) (fun j => j ≤ ns.length) (fun j => ns.length - j) 0 (Nat.zero_le _) ⟨rfl, congrArg (fun z => some (Value.bool z)) (decide_eq_false (by simp)).symm, trivial⟩ rfl ?_
    rintro j hj
    refine SX.seq ?_
    refine SX.region ?_
    refine SXL.lss rfl rfl ?_
    refine SXL.nil ?_
    refine thenQ.normal ?_
    refine SX.seq ?_
    refine SX.condP rfl (fun c2 => ?_) (fun c2 => ?_)
    · refine SX.skip ?_
      refine thenQ.normal ?_
      refine SX.seq ?_
      refine SX.block ?_
      refine SX.seq ?_
      have hjl : j < ns.length := by omega
      obtain ⟨b2, o2, ha2, hm2⟩ := oneI ha0 hjl
      refine SX.region ?_
      refine SXL.indexR el_35 rfl rfl ha2 (by omega) ?_
      refine SXL.load1 sh_3 rfl (hm2 _) ?_
      refine SXL.assign rfl ?_
      refine SXL.nil ?_
      refine thenQ.normal ?_
      refine SX.region ?_
      refine SXL.move rfl ?_
      refine SXL.move rfl ?_
      apply SXL.orG 4
      case hl => exact rfl
      case hd => exact rfl
      case hg => exact rfl
      case ht =>
        intro g3
        refine SXL.pass rfl rfl rfl ?_
        refine SXL.pass rfl rfl rfl ?_
        refine SXL.pass rfl rfl rfl ?_
        refine SXL.pass rfl rfl rfl ?_
        exact SXL.nil (segQ.mk (.skip rfl (.skip rfl (.skip rfl (.skip rfl (.skip rfl (EnvSub.refl _)))))) rfl rfl rfl)
      case hf =>
        intro g3
        refine SXL.move rfl ?_
        refine SXL.fieldAddr fp_54_0 rfl ?_
        refine SXL.load1o 6 sh_3 rfl rfl rfl ?_
        refine SXL.eqlI rfl rfl ?_
        exact SXL.nil (segQ.mk (.skip rfl (.skip rfl (.skip rfl (.skip rfl (.skip rfl (EnvSub.refl _)))))) rfl rfl ⟨rfl, rfl⟩)
      refine SXL.assign rfl ?_
      refine SXL.nil ?_
      refine blockQ.normal ?_
      refine thenQ.normal ?_
      refine SX.region ?_
      refine SXL.add rfl rfl (by omega) ?_
      refine SXL.move rfl ?_
      refine SXL.nil ?_
      refine thenQ.normal ?_
      refine ⟨j + 1, Meets.mk _ ⟨rfl, congrArg (fun z => some (Value.bool z)) (decide_eq_decide.2 (mem_take_succ hjl).symm), trivial⟩ ⟨rfl, rfl, rfl, rfl, rfl, rfl, rfl, rfl, rfl, trivial⟩ rfl, (by omega), (by omega)⟩
    · refine SX.exit ?_
      refine thenQ.exit ?_
      refine thenQ.exit ?_
      refine blockQ.exit ?_
      refine thenQ.normal ?_
      refine SX.seq ?_
      obtain rfl : j = ns.length := by omega
      refine SX.region ?_
      refine SXL.move rfl ?_
      refine SXL.not rfl ?_
      refine SXL.nil ?_
      refine thenQ.normal ?_
      refine SX.condP rfl (fun c36 => ?_) (fun c36 => ?_)
      · refine SX.region ?_
        refine SXL.fieldAddr fp_27_6 rfl ?_
        refine SXL.load1o 4 sh_25 rfl rfl rfl ?_
        refine SXL.loadNo 6 sh_54 rfl rfl rfl ?_
        refine SXL.buildSlice et_25 zp_54 rfl rfl rfl rfl ?_; intro b7
        refine SXL.append 5 ap_25 rfl rfl ho rfl (.inr ⟨_, _, rfl, Mem.own (i := 7) rfl (takeAt_all _)⟩) rfl rfl ⟨by simp only [maxLen]; omega, by omega⟩ ?_; intro r_41 o_41
        refine SXL.fieldAddr fp_27_6 rfl ?_
        refine SXL.store 4 sz_25 rfl rfl rfl rfl rfl rfl ?_
        refine SXL.nil ?_
        refine blockQ.normal ?_
        refine thenQ.normal ?_
        refine SX.region ?_
        refine SXL.add rfl rfl (by omega) ?_
        refine SXL.move rfl ?_
        refine SXL.nil ?_
        refine thenQ.normal ?_
        refine ⟨(k + 1, _, _, _), Meets.mk _ ⟨rfl, trivial⟩ ⟨rfl, rfl, rfl, rfl, rfl, trivial⟩ rfl, ?_, (show s.reads.length - (k + 1) < s.reads.length - k by omega)⟩
        first
          | exact ⟨by omega, o_41, by rw [keepR_yes hk (by rwa [List.take_length] at c36)]; simp [rdC, Rd.cells], by rw [keepR_yes hk (by rwa [List.take_length] at c36)]; simp [hn2]⟩
          | exact ⟨by omega, ho, by rw [keepR_no hk (by have h := Decidable.not_not.1 c36; rwa [List.take_length] at h)], by rw [keepR_no hk (by have h := Decidable.not_not.1 c36; rwa [List.take_length] at h)]; exact hn2⟩
      · refine SX.skip ?_
        refine blockQ.normal ?_
        refine thenQ.normal ?_
        refine SX.region ?_
        refine SXL.add rfl rfl (by omega) ?_
        refine SXL.move rfl ?_
        refine SXL.nil ?_
        refine thenQ.normal ?_
        refine ⟨(k + 1, _, _, _), Meets.mk _ ⟨rfl, trivial⟩ ⟨rfl, rfl, rfl, rfl, rfl, trivial⟩ rfl, ?_, (show s.reads.length - (k + 1) < s.reads.length - k by omega)⟩
        first
          | exact ⟨by omega, o_41, by rw [keepR_yes hk (by rwa [List.take_length] at c36)]; simp [rdC, Rd.cells], by rw [keepR_yes hk (by rwa [List.take_length] at c36)]; simp [hn2]⟩
          | exact ⟨by omega, ho, by rw [keepR_no hk (by have h := Decidable.not_not.1 c36; rwa [List.take_length] at h)], by rw [keepR_no hk (by have h := Decidable.not_not.1 c36; rwa [List.take_length] at h)]; exact hn2⟩
  · refine SX.exit ?_
    refine thenQ.exit ?_
    refine thenQ.exit ?_
    refine blockQ.exit ?_
    refine thenQ.normal ?_
    refine SX.seq ?_
    obtain rfl : k = s.reads.length := by omega
    refine SX.region ?_
    refine SXL.loadNo 4 sh_27 rfl rfl rfl ?_
    refine SXL.store 1 sz_27 rfl rfl rfl rfl rfl rfl ?_
    refine SXL.nil ?_
    refine thenQ.normal ?_
    refine SX.ret ?_
    refine retQ.sel [2, 5] rfl rfl ?_
    refine retQ.one (ResAt.cellNo 1 sh_27 rfl rfl rfl) ?_
    rw [List.take_length] at ho hn2; subst hn2; exact ⟨r1, q, o1, ho, rfl, by rw [List.take_length]; rfl⟩
set_option maxHeartbeats 2000000 in
theorem swithout_any (s : Sp) (bo ro : Option Addr) (bc rc : Nat) (ns : List Int) (ao : Option Addr) (nc : Nat) (hn : ns.length ≤ 1000000) (hb : s.book.length ≤ 1000000) (hr : s.reads.length ≤ 1000000) (hd : (numsL s).Nodup) (w : World) (hs : SpAt w s bo ro) (ha0 : RowsAt w ao 1 (ones ns)) :
    CallsR Tryd.prog 84 [.agg ⟨[.int .i64 s.weeks, .int .i64 s.most, .int .i64 s.fall, .int .i64 s.a0, .int .i64 s.a1, .int .i64 s.w0, .int .i64 s.w1, (.slice bo s.book.length bc), (.slice ro s.reads.length rc)]⟩, .slice ao ns.length nc] w (SpR (wo s ns)) := by
  refine CallsR.of_SX (n := 47) (rs := [.cell 4 27]) Tryd.func84 rfl rfl rfl rfl ?_
  show SX _ _ _ ⟨[(0, .agg ⟨[.int .i64 s.weeks, .int .i64 s.most, .int .i64 s.fall, .int .i64 s.a0, .int .i64 s.a1, .int .i64 s.w0, .int .i64 s.w1, (.slice bo s.book.length bc), (.slice ro s.reads.length rc)]⟩), (1, .slice ao ns.length nc)], [], []⟩
  refine SX.seq ?_
  refine SX.region ?_
  refine SXL.box rfl rfl ?_; intro b0
  refine SXL.alloc zp_27 ?_; intro b1
  refine SXL.nil ?_
  refine thenQ.normal ?_
  refine SX.seq ?_
  refine SX.region ?_
  refine SXL.makeMap ?_; intro b2
  refine SXL.assign rfl ?_
  refine SXL.nil ?_
  refine thenQ.normal ?_
  refine SX.seq ?_
  refine SX.seq ?_
  refine SX.region ?_
  refine SXL.move rfl ?_
  refine SXL.len is_35 rfl ?_
  refine SXL.move rfl ?_
  refine SXL.nil ?_
  refine thenQ.normal ?_
  refine SX.block ?_
  refine SX.loopG (α := Nat × List (Int × Nat) × Nat) [2, 4, 5, 12, 13] rfl (fun ⟨j, ks, mc⟩ => [(14, .int .i64 ((j : Int)))]) (fun ⟨j, ks, mc⟩ => [(2, (b2, .map ⟨mkMap ks⟩ mc))]) (fun ⟨j, ks, mc⟩ => j ≤ ns.length ∧ (mkeys ks).Nodup ∧ ∀ x, x ∈ mkeys ks ↔ x ∈ ns.take j) (fun ⟨j, ks, mc⟩ => ns.length - j) (0, [], 0) ⟨Nat.zero_le _, List.nodup_nil, fun x => by simp [mkeys]⟩ ⟨rfl, trivial⟩ rfl ?_
  rintro ⟨j, ks, mc⟩ ⟨hj, hnd, hks⟩
  refine SX.seq ?_
  refine SX.region ?_
  refine SXL.lss rfl rfl ?_
  refine SXL.nil ?_
  refine thenQ.normal ?_
  refine SX.seq ?_
  refine SX.condP rfl (fun c1 => ?_) (fun c1 => ?_)
  · refine SX.skip ?_
    refine thenQ.normal ?_
    refine SX.seq ?_
    refine SX.block ?_
    refine SX.seq ?_
    have hjl : j < ns.length := by omega
    obtain ⟨b3, o3, ha2, hm2⟩ := oneI ha0 hjl
    refine SX.region ?_
    refine SXL.indexR el_35 rfl rfl ha2 (by omega) ?_
    refine SXL.load1 sh_3 rfl (hm2 _) ?_
    refine SXL.assign rfl ?_
    refine SXL.nil ?_
    refine thenQ.normal ?_
    refine SX.region ?_
    refine SXL.move rfl ?_
    refine SXL.move rfl ?_
    refine SXL.mapPut 2 mk_173 rfl rfl rfl rfl ?_
    refine SXL.nil ?_
    refine blockQ.normal ?_
    refine thenQ.normal ?_
    refine SX.region ?_
    refine SXL.add rfl rfl (by omega) ?_
    refine SXL.move rfl ?_
    refine SXL.nil ?_
    refine thenQ.normal ?_
    refine ⟨(j + 1, _, _), Meets.mk _ ⟨rfl, trivial⟩ ⟨rfl, rfl, rfl, rfl, rfl, trivial⟩ rfl, ⟨by omega, mput_nodup hnd, fun x => by rw [mput_keys, hks, mem_take_succ hjl, or_comm, eq_comm]⟩, (show ns.length - (j + 1) < ns.length - j by omega)⟩
  · refine SX.exit ?_
    refine thenQ.exit ?_
    refine thenQ.exit ?_
    refine blockQ.exit ?_
    refine thenQ.normal ?_
    refine SX.seq ?_
    obtain rfl : j = ns.length := by omega
    refine SX.region ?_
    refine SXL.fieldAddr fp_27_5 rfl ?_
    refine SXL.load1o 0 sh_24 rfl rfl rfl ?_
    refine SXL.callF (IsB s) fn_122 rfl (fun w hI => cloneLines s bo bc hb w (hs.inv hI).book) ?_; rintro _ _ ⟨r1, o1, rfl, rfl⟩
    refine SXL.fieldAddr fp_27_5 rfl ?_
    refine SXL.store 0 sz_24 rfl rfl rfl rfl rfl rfl ?_
    refine SXL.nil ?_
    refine thenQ.normal ?_
    refine SX.seq ?_
    refine SX.pad (Sl.nil.ent 54 []) rfl ?_
    refine SX.region ?_
    refine SXL.assign rfl ?_
    refine SXL.nil ?_
    refine thenQ.normal ?_
    refine SX.seq ?_
    refine SX.seq ?_
    refine SX.region ?_
    refine SXL.fieldAddr fp_27_6 rfl ?_
    refine SXL.load1o 0 sh_25 rfl rfl rfl ?_
    refine SXL.len is_25 rfl ?_
    refine SXL.move rfl ?_
    refine SXL.nil ?_
    refine thenQ.normal ?_
    refine SX.block ?_
    refine SX.loopG (α := Nat × List (Int × Nat) × Nat × Sl × Nat × List Value) [2, 4, 5, 26, 27] rfl (fun ⟨k, ks, mc, q, n, c⟩ => [(28, .int .i64 ((k : Int))), (8, q.val n)]) (fun ⟨k, ks, mc, q, n, c⟩ => [(2, (b2, .map ⟨mkMap ks⟩ mc)), (4, q.ent 54 c)]) (fun ⟨k, ks, mc, q, n, c⟩ => k ≤ s.reads.length ∧ (mkeys ks).Nodup ∧ (∀ x, x ∈ mkeys ks ↔ x ∈ ns ∧ ∀ i, i < k → (s.reads.getD i default).num ≠ x) ∧ q.Ok n 5 c ∧ c = (rdC (keepR (s.reads.take k) ns)) ∧ n = (keepR (s.reads.take k) ns).length) (fun ⟨k, ks, mc, q, n, c⟩ => s.reads.length - k) (0, ks, mc, Sl.nil, 0, []) ⟨Nat.zero_le _, hnd, fun x => by rw [hks, List.take_length]; exact ⟨fun h => ⟨h, fun i hi => absurd hi (Nat.not_lt_zero _)⟩, fun h => h.1⟩, .none _, rfl, rfl⟩ ⟨rfl, rfl, trivial⟩ rfl ?_
    rintro ⟨k, ks2, mc2, q, n, c⟩ ⟨hkl, hnd2, hks2, ho, rfl, hn2⟩
    have hkl2 := keepR_len (s.reads.take k) ns
    rw [List.length_take] at hkl2
    refine SX.seq ?_
    refine SX.region ?_
    refine SXL.lss rfl rfl ?_
    refine SXL.nil ?_
    refine thenQ.normal ?_
    refine SX.seq ?_
    refine SX.condP rfl (fun c2 => ?_) (fun c2 => ?_)
    · refine SX.skip ?_
      refine thenQ.normal ?_
      refine SX.seq ?_
      refine SX.block ?_
      refine SX.seq ?_
      have hk : k < s.reads.length := by omega
      obtain ⟨b, o, ha, hm⟩ := hs.readD hk
      refine SX.region ?_
      refine SXL.indexR el_25 rfl rfl ha (by omega) ?_
      refine SXL.loadN sh_54 rfl (hm _) rfl ?_
      refine SXL.alloc zp_54 ?_; intro b5
      refine SXL.store 5 sz_54 rfl rfl rfl rfl rfl rfl ?_
      refine SXL.nil ?_
      refine thenQ.normal ?_
      refine SX.seq ?_
      refine SX.seq ?_
      refine SX.region ?_
      refine SXL.move rfl ?_
      refine SXL.fieldAddr fp_54_0 rfl ?_
      refine SXL.load1o 5 sh_3 rfl rfl rfl ?_
      refine SXL.mapGet 2 mk_173 rfl rfl rfl ?_
      refine SXL.nil ?_
      refine thenQ.normal ?_
      refine SX.condP rfl (fun c35 => ?_) (fun c35 => ?_)
      · refine SX.seq ?_
        refine SX.region ?_
        refine SXL.move rfl ?_
        refine SXL.fieldAddr fp_54_0 rfl ?_
        refine SXL.load1o 5 sh_3 rfl rfl rfl ?_
        refine SXL.mapDel 2 mk_173 rfl rfl rfl rfl ?_
        refine SXL.nil ?_
        refine thenQ.normal ?_
        refine SX.exit ?_
        refine thenQ.exit ?_
        refine blockQ.exit ?_
        refine thenQ.normal ?_
        refine SX.region ?_
        refine SXL.add rfl rfl (by omega) ?_
        refine SXL.move rfl ?_
        refine SXL.nil ?_
        refine thenQ.normal ?_
        refine ⟨(k + 1, _, _, _, _, _), Meets.mk _ ⟨rfl, rfl, trivial⟩ ⟨rfl, rfl, rfl, rfl, rfl, trivial⟩ rfl, ?_, (show s.reads.length - (k + 1) < s.reads.length - k by omega)⟩
        have hin := gone_iff hd hk hks2
        first
          | exact ⟨by omega, mdel_nodup hnd2, gone_del hnd2 hk hks2, ho, by rw [keepR_no hk (hin.1 c35)], by rw [keepR_no hk (hin.1 c35)]; exact hn2⟩
          | exact ⟨by omega, hnd2, gone_stay hk (fun h => c35 (hin.2 h)) hks2, o_42, by rw [keepR_yes hk (fun h => c35 (hin.2 h))]; simp [rdC, Rd.cells], by rw [keepR_yes hk (fun h => c35 (hin.2 h))]; simp [hn2]⟩
      · refine SX.skip ?_
        refine thenQ.normal ?_
        refine SX.region ?_
        refine SXL.move rfl ?_
        refine SXL.loadNo 5 sh_54 rfl rfl rfl ?_
        refine SXL.buildSlice et_25 zp_54 rfl rfl rfl rfl ?_; intro b6
        refine SXL.append 4 ap_25 rfl rfl ho rfl (.inr ⟨_, _, rfl, Mem.own (i := 6) rfl (takeAt_all _)⟩) rfl rfl ⟨by simp only [maxLen]; omega, by omega⟩ ?_; intro r_42 o_42
        refine SXL.assign rfl ?_
        refine SXL.nil ?_
        refine blockQ.normal ?_
        refine thenQ.normal ?_
        refine SX.region ?_
        refine SXL.add rfl rfl (by omega) ?_
        refine SXL.move rfl ?_
        refine SXL.nil ?_
        refine thenQ.normal ?_
        refine ⟨(k + 1, _, _, _, _, _), Meets.mk _ ⟨rfl, rfl, trivial⟩ ⟨rfl, rfl, rfl, rfl, rfl, trivial⟩ rfl, ?_, (show s.reads.length - (k + 1) < s.reads.length - k by omega)⟩
        have hin := gone_iff hd hk hks2
        first
          | exact ⟨by omega, mdel_nodup hnd2, gone_del hnd2 hk hks2, ho, by rw [keepR_no hk (hin.1 c35)], by rw [keepR_no hk (hin.1 c35)]; exact hn2⟩
          | exact ⟨by omega, hnd2, gone_stay hk (fun h => c35 (hin.2 h)) hks2, o_42, by rw [keepR_yes hk (fun h => c35 (hin.2 h))]; simp [rdC, Rd.cells], by rw [keepR_yes hk (fun h => c35 (hin.2 h))]; simp [hn2]⟩
    · refine SX.exit ?_
      refine thenQ.exit ?_
      refine thenQ.exit ?_
      refine blockQ.exit ?_
      refine thenQ.normal ?_
      refine SX.seq ?_
      obtain rfl : k = s.reads.length := by omega
      refine SX.region ?_
      refine SXL.move rfl ?_
      refine SXL.fieldAddr fp_27_6 rfl ?_
      refine SXL.store 0 sz_25 rfl rfl rfl rfl rfl rfl ?_
      refine SXL.nil ?_
      refine thenQ.normal ?_
      refine SX.seq ?_
      refine SX.region ?_
      refine SXL.loadNo 0 sh_27 rfl rfl rfl ?_
      refine SXL.store 1 sz_27 rfl rfl rfl rfl rfl rfl ?_
      refine SXL.nil ?_
      refine thenQ.normal ?_
      refine SX.ret ?_
      refine retQ.sel [3, 4] rfl rfl ?_
      refine retQ.one (ResAt.cellNo 1 sh_27 rfl rfl rfl) ?_
      rw [List.take_length] at ho hn2; subst hn2; exact ⟨r1, q, o1, ho, rfl, by rw [List.take_length]; rfl⟩
end Go.Proofs.YtknflipongbngaaDoor

/- What a reading tells alone: the plain words. Nothing of Go stands here. -/
namespace Go.S
open Go.X (G)
def readE (s : Sp) (x : Rd) : Int := if ¬SpP s then 10 else if ¬RdP x s.weeks then 12 else if readsP s x = (1, 0) then 6 else 0
def readLo (s : Sp) (x : Rd) : Int := if readE s x = 0 then (readsP s x).1 else 0
def readHi (s : Sp) (x : Rd) : Int := if readE s x = 0 then (readsP s x).2 else 0
def rTo (s : Sp) (x : Rd) : Nat → Int × Int
  | 0 => (s.most + 1, -1)
  | k + 1 => if Right s x k then (min (rTo s x k).1 k, k) else rTo s x k
end Go.S

/- The walks of functions. -/
namespace Go.Proofs.YtknflipongbngaaDoor
open Go.X Go.S Go.RowKit
end Go.Proofs.YtknflipongbngaaDoor

/- The readings that must be false: lists handed back. -/
namespace Go.S
open Go Go.X
/-- A list that is found, or none. -/
structure FrR (o : Option (List Int)) (v : Value) (own : X.Own) : Prop where
  ex : ∃ r : Sl, r.Ok (o.getD []).length 1 (ints (o.getD [])) ∧ v = .tuple ⟨[r.val (o.getD []).length, .bool (decide (o.isSome = true))]⟩ ∧ own = [r.ent 3 (ints (o.getD []))]
theorem FrR.none {o : Option (List Int)} (h : o = .none) : FrR o (.tuple ⟨[.slice .none 0 0, .bool (decide False)]⟩) [Sl.nil.ent 3 []] := by
  subst h
  exact ⟨Sl.nil, Sl.Ok.none _, by simp [Sl.val, Sl.nil, Sl.addr], rfl⟩
theorem FrR.some {o : Option (List Int)} {r : Sl} {l : List Int} {n : Nat} (h : o = .some l) (ho : r.Ok n 1 (ints l)) {p : Prop} [Decidable p] (hp : p) : FrR o (.tuple ⟨[r.val n, .bool (decide p)]⟩) [r.ent 3 (ints l)] := by
  subst h
  have e := Ok.n ho
  subst e
  exact ⟨r, ho, by simp [hp], rfl⟩
theorem _root_.Go.X.CallsR.own0 {P : Program} {f : FuncId} {args : List Value} {w : World} {S : Value → Prop} {R : Value → X.Own → Prop} (h : CallsR P f args w fun v _ => S v) (hr : ∀ v, S v → R v [Sl.nil.ent 3 []]) : CallsR P f args w R :=
  Calls.mono h fun _ _ ⟨v, _, h1, h2, h3⟩ => ⟨v, [Sl.nil.ent 3 []], h1, (h2.weaken (List.nil_sublist _)).pad (p := Sl.nil.ent 3 []) rfl, hr v h3⟩
end Go.S

/- The walks of functions. -/
namespace Go.Proofs.YtknflipongbngaaDoor
open Go.X Go.S Go.RowKit
/-- What the closure that strikes finds: the spring, itself. -/
structure StAt (w : World) (s : Sp) (bo ro : Option Addr) (bc rc b3 b4 : Nat) : Prop where
  sp : ∀ j v, (sp9 s bo ro bc rc)[j]? = some v → w.cell? ⟨b3, 0 + j, none⟩ = some v
  fn : w.cell? ⟨b4, 0, none⟩ = some (.func (.func 86) ⟨[]⟩ ⟨[.pointer (some ⟨b3, 0, none⟩), .pointer (some ⟨b4, 0, none⟩)]⟩)
theorem StAt.inv {w0 w : World} {own : X.Own} {s : Sp} {bo ro : Option Addr} {bc rc b3 b4 : Nat} (h : StAt w0 s bo ro bc rc b3 b4) (hI : Inv w0 own w) : StAt w s bo ro bc rc b3 b4 :=
  ⟨fun j v hj => cell_keep (h.sp j v hj) hI.below, cell_keep h.fn hI.below⟩
end Go.Proofs.YtknflipongbngaaDoor

/- Springs that are handed back with an error: struck readings, a line more. -/
namespace Go.S
open Go Go.X
def zeroSp : Sp := ⟨0, 0, 0, 0, 0, 0, 0, [], []⟩
/-- A spring and an error. -/
structure SpE (s : Sp) (e : Int) (v : Value) (own : X.Own) : Prop where
  ex : ∃ r1 r2 : Sl, r1.Ok s.book.length 5 (bookC s) ∧ r2.Ok s.reads.length 5 (readsC s) ∧ v = .tuple ⟨[spV s r1 r2, .int .i64 e]⟩ ∧ own = [r1.ent 61 (bookC s), r2.ent 54 (readsC s)]
theorem SpE.zero (e : Int) : SpE zeroSp e (.tuple ⟨[.agg ⟨[.int .i64 0, .int .i64 0, .int .i64 0, .int .i64 0, .int .i64 0, .int .i64 0, .int .i64 0, .slice none 0 0, .slice none 0 0]⟩, .int .i64 e]⟩) [Sl.nil.ent 61 [], Sl.nil.ent 54 []] :=
  ⟨Sl.nil, Sl.nil, Sl.Ok.none _, Sl.Ok.none _, rfl, rfl⟩
/-- Numbers of readings, in order. -/
def StrikeOk (s : Sp) (ns : List Int) : Prop := ∀ i, i < ns.length → ns.getD i 0 ∈ numsL s ∧ (0 < i → ns.getD (i - 1) 0 < ns.getD i 0)
instance (s : Sp) (ns : List Int) : Decidable (StrikeOk s ns) := by unfold StrikeOk; infer_instance
def strikeE (s : Sp) (ns : List Int) : Int := if ¬SpP s then 10 else if ¬StrikeOk s ns then 12 else 0
def strikeS (s : Sp) (ns : List Int) : Sp := if strikeE s ns = 0 then wo s ns else zeroSp
theorem strike_bad {s : Sp} {ns : List Int} {e : Int} (h : strikeE s ns = e) (he : e ≠ 0) : strikeS s ns = zeroSp := if_neg (by rw [h]; exact he)
theorem strike_ok {s : Sp} {ns : List Int} (h : strikeE s ns = 0) : strikeS s ns = wo s ns := if_pos h
theorem numsL_at {s : Sp} {k : Nat} (h : k < s.reads.length) : (numsL s).getD k 0 = (s.reads.getD k default).num := by simp [numsL, h]
theorem num_pos {s : Sp} (hv : SpP s) {x : Int} (h : x ∈ numsL s) : 1 ≤ x := by
  obtain ⟨r, hr, rfl⟩ := List.mem_map.1 h
  have := (readsP_iff.1 hv.2.2).1 r hr
  omega
/-- The number ahead; nought ahead of all. -/
def lastOf (ns : List Int) (j : Nat) : Int := if j = 0 then 0 else ns.getD (j - 1) 0
def StrikeTo (s : Sp) (ns : List Int) (j : Nat) : Prop := ∀ i, i < j → ns.getD i 0 ∈ numsL s ∧ (0 < i → ns.getD (i - 1) 0 < ns.getD i 0)
theorem StrikeTo.next {s : Sp} {ns : List Int} {j : Nat} (h : StrikeTo s ns j) (h1 : ns.getD j 0 ∈ numsL s) (h2 : 0 < j → ns.getD (j - 1) 0 < ns.getD j 0) : StrikeTo s ns (j + 1) := fun i hi => by
  by_cases e : i = j
  · subst e; exact ⟨h1, h2⟩
  · exact h i (by omega)
theorem StrikeTo.all {s : Sp} {ns : List Int} (h : StrikeTo s ns ns.length) : StrikeOk s ns := fun i hi => h i hi
theorem lastOf_next {s : Sp} {ns : List Int} {j : Nat} (h : ¬(ns.getD j 0 ≤ lastOf ns j ∨ ¬ns.getD j 0 ∈ numsL s)) : lastOf ns j < ns.getD j 0 ∧ ns.getD j 0 ∈ numsL s :=
  ⟨by rcases Int.lt_or_le (lastOf ns j) (ns.getD j 0) with h1 | h1
      · exact h1
      · exact absurd (.inl h1) h, Decidable.byContradiction fun h1 => h (.inr h1)⟩
theorem lastOf_lt {ns : List Int} {j : Nat} {x : Int} (h : lastOf ns j < x) : 0 < j → ns.getD (j - 1) 0 < x := fun h0 => by
  unfold lastOf at h
  rw [if_neg (by omega)] at h
  exact h
theorem lastOf_bad {s : Sp} (hv : SpP s) {ns : List Int} {j : Nat} (hj : j < ns.length) (h : ns.getD j 0 ≤ lastOf ns j ∨ ns.getD j 0 ∉ numsL s) : ¬StrikeOk s ns := fun hok => by
  have h1 := hok j hj
  rcases h with h | h
  · by_cases h0 : j = 0
    · have := num_pos hv h1.1
      unfold lastOf at h
      rw [if_pos h0] at h
      omega
    · have := h1.2 (by omega)
      unfold lastOf at h
      rw [if_neg h0] at h
      omega
  · exact h h1.1
/-! ### a line more -/
def withLine (s : Sp) (y : Ln) : Sp := { s with book := s.book ++ [y] }
def writeE (s : Sp) (y : Ln) : Int := if ¬SpP s then 10 else if s.book.length = 8 then 9 else if ¬SpP (withLine s y) then 13 else 0
def writeS (s : Sp) (y : Ln) : Sp := if writeE s y = 0 then withLine s y else zeroSp
theorem bookC_line (s : Sp) (y : Ln) : bookC (withLine s y) = bookC s ++ y.cells := by simp [bookC, withLine]
theorem write_bad {s : Sp} {y : Ln} {e : Int} (h : writeE s y = e) (he : e ≠ 0) : writeS s y = zeroSp := if_neg (by rw [h]; exact he)
theorem write_ok {s : Sp} {y : Ln} (h : writeE s y = 0) : writeS s y = withLine s y := if_pos h
theorem wo_nil (s : Sp) : wo s [] = s := by
  unfold wo keepR
  have : (s.reads.filter fun x => decide (x.num ∉ ([] : List Int))) = s.reads := List.filter_eq_self.2 fun x _ => by simp
  rw [this]
end Go.S

/- The walks of functions. -/
namespace Go.Proofs.YtknflipongbngaaDoor
open Go.X Go.S Go.RowKit
theorem containsInts (l : List Int) (x : Int) (ao : Option Addr) (c : Nat) (hl2 : l.length ≤ 1000000) (w : World) (h : RowsAt w ao 1 (ones l)) :
    CallsR Tryd.prog 93 [.slice ao l.length c, .int .i64 x] w (fun v _ => v = .bool (decide (x ∈ l))) := by
  refine CallsR.of_SX (n := 9) (rs := [.tmp 4]) Tryd.func93 rfl rfl rfl rfl ?_
  show SX _ _ _ ⟨[(0, .slice ao l.length c), (1, .int .i64 x)], [], []⟩
  refine SX.seq ?_
  refine SX.region ?_
  refine SXL.assign rfl ?_
  refine SXL.nil ?_
  refine thenQ.normal ?_
  refine SX.seq ?_
  refine SX.region ?_
  refine SXL.move rfl ?_
  refine SXL.move rfl ?_
  refine SXL.call1 (.int .i64 (idxF (fun k => x = l.getD k 0) l.length)) fn_107 rfl (fun w hI => indexInts l x ao c hl2 _ (h.inv hI)) ?_
  refine SXL.geq rfl rfl ?_
  refine SXL.assign rfl ?_
  refine SXL.nil ?_
  refine thenQ.normal ?_
  refine SX.ret ?_
  refine retQ.one (ResAt.tmp rfl) ?_
  exact congrArg Value.bool (decide_eq_decide.2 (by
    rw [idxF_nonneg]
    constructor
    · rintro ⟨k, hk, e⟩
      rw [e, List.getD_eq_getElem?_getD, List.getElem?_eq_getElem hk]; exact List.getElem_mem hk
    · intro h
      obtain ⟨k, hk, e⟩ := List.getElem_of_mem h
      exact ⟨k, hk, by simp [hk, e]⟩))
set_option maxHeartbeats 2000000 in
theorem rstrike_any (s : Sp) (bo ro : Option Addr) (bc rc : Nat) (ns : List Int) (ao : Option Addr) (nc : Nat) (hn : ns.length ≤ 1000000) (w : World) (hs : SpAt w s bo ro) (ha0 : RowsAt w ao 1 (ones ns)) :
    CallsR Tryd.prog 41 [.agg ⟨[.int .i64 s.weeks, .int .i64 s.most, .int .i64 s.fall, .int .i64 s.a0, .int .i64 s.a1, .int .i64 s.w0, .int .i64 s.w1, (.slice bo s.book.length bc), (.slice ro s.reads.length rc)]⟩, .slice ao ns.length nc] w (SpE (strikeS s ns) (strikeE s ns)) := by
  refine CallsR.of_SX (n := 57) (rs := [.cell 4 27, .tmp 5]) Tryd.func41 rfl rfl rfl rfl ?_
  show SX _ _ _ ⟨[(0, .agg ⟨[.int .i64 s.weeks, .int .i64 s.most, .int .i64 s.fall, .int .i64 s.a0, .int .i64 s.a1, .int .i64 s.w0, .int .i64 s.w1, (.slice bo s.book.length bc), (.slice ro s.reads.length rc)]⟩), (1, .slice ao ns.length nc)], [], []⟩
  refine SX.seq ?_
  refine SX.region ?_
  refine SXL.box rfl rfl ?_; intro b0
  refine SXL.alloc zp_27 ?_; intro b1
  refine SXL.assign rfl ?_
  refine SXL.nil ?_
  refine thenQ.normal ?_
  refine SX.seq ?_
  refine SX.seq ?_
  refine SX.region ?_
  refine SXL.loadNo 0 sh_27 rfl rfl rfl ?_
  refine SXL.call1 (.bool (decide (SpP s))) fn_74 rfl (fun w hI => spring_any s bo ro bc rc _ (hs.inv hI)) ?_
  refine SXL.not rfl ?_
  refine SXL.nil ?_
  refine thenQ.normal ?_
  refine SX.condP rfl (fun c13 => ?_) (fun c13 => ?_)
  · refine SX.seq ?_
    refine SX.region ?_
    refine SXL.buildS pl_27 zp_27 rfl rfl ?_
    refine SXL.store 1 sz_27 rfl rfl rfl rfl rfl rfl ?_
    refine SXL.assign rfl ?_
    refine SXL.nil ?_
    refine thenQ.normal ?_
    refine SX.ret ?_
    refine thenQ.ret ?_
    refine retQ.dead [Sl.nil.ent 61 [], Sl.nil.ent 54 []] rfl ?_
    refine retQ.two (ResAt.cellNo 1 sh_27 rfl rfl rfl) (ResAt.tmp rfl) ?_
    have he : strikeE s ns = 10 := by rw [strikeE, if_pos c13]
    rw [strike_bad he (by omega), he]; exact SpE.zero _
  · refine SX.skip ?_
    refine thenQ.normal ?_
    refine SX.seq ?_
    refine SX.seq ?_
    have hv : SpP s := Decidable.not_not.1 c13
    have hH := hv.1
    unfold HeadP at hH
    have hnl := length_numsL s
    refine SX.region ?_
    refine SXL.move rfl ?_
    refine SXL.len is_35 rfl ?_
    refine SXL.move rfl ?_
    refine SXL.nil ?_
    refine thenQ.normal ?_
    refine SX.block ?_
    refine SX.loopG (α := Nat) [1, 2, 4, 5, 15, 16] rfl (fun j => [(17, .int .i64 ((j : Int)))]) (fun j => []) (fun j => j ≤ ns.length ∧ StrikeTo s ns j) (fun j => ns.length - j) 0 ⟨Nat.zero_le _, fun i h => absurd h (Nat.not_lt_zero _)⟩ ⟨rfl, trivial⟩ rfl ?_
    rintro j ⟨hjl, hall⟩
    refine SX.seq ?_
    refine SX.region ?_
    refine SXL.lss rfl rfl ?_
    refine SXL.nil ?_
    refine thenQ.normal ?_
    refine SX.seq ?_
    refine SX.condP rfl (fun c2 => ?_) (fun c2 => ?_)
    · refine SX.skip ?_
      refine thenQ.normal ?_
      refine SX.seq ?_
      refine SX.block ?_
      refine SX.seq ?_
      have hj : j < ns.length := by omega
      obtain ⟨b, o, ha, hm⟩ := oneI ha0 hj
      refine SX.region ?_
      refine SXL.move rfl ?_
      refine SXL.indexR el_35 rfl rfl ha (by omega) ?_
      refine SXL.load1 sh_3 rfl (hm _) ?_
      refine SXL.assign rfl ?_
      refine SXL.assign rfl ?_
      refine SXL.nil ?_
      refine thenQ.normal ?_
      refine SX.seq ?_
      refine SX.region ?_
      refine SXL.assign rfl ?_
      refine SXL.nil ?_
      refine thenQ.normal ?_
      refine SX.seq ?_
      refine SX.seq ?_
      refine SX.region ?_
      refine SXL.fieldAddr fp_27_6 rfl ?_
      refine SXL.load1o 0 sh_25 rfl rfl rfl ?_
      refine SXL.len is_25 rfl ?_
      refine SXL.move rfl ?_
      refine SXL.nil ?_
      refine thenQ.normal ?_
      refine SX.block ?_
      refine SX.loopG (α := Nat) [1, 2, 4, 5, 6, 7, 15, 16, 17, 23, 24] rfl (fun k => [(25, .int .i64 ((k : Int))), (8, .bool (decide ((ns.getD j 0) ∈ (numsL s).take k)))]) (fun k => []) (fun k => k ≤ s.reads.length) (fun k => s.reads.length - k) 0 (Nat.zero_le _) ⟨rfl, congrArg (fun z => some (Value.bool z)) (decide_eq_false (by simp)).symm, trivial⟩ rfl ?_
      rintro k hk0
      refine SX.seq ?_
      refine SX.region ?_
      refine SXL.lss rfl rfl ?_
      refine SXL.nil ?_
      refine thenQ.normal ?_
      refine SX.seq ?_
      refine SX.condP rfl (fun c3 => ?_) (fun c3 => ?_)
      · refine SX.skip ?_
        refine thenQ.normal ?_
        refine SX.seq ?_
        refine SX.block ?_
        refine SX.seq ?_
        have hk : k < s.reads.length := by omega
        obtain ⟨b2, o2, ha2, hm2⟩ := hs.readD hk
        refine SX.region ?_
        refine SXL.indexR el_25 rfl rfl ha2 (by omega) ?_
        refine SXL.loadN sh_54 rfl (hm2 _) rfl ?_
        refine SXL.alloc zp_54 ?_; intro b2
        refine SXL.store 2 sz_54 rfl rfl rfl rfl rfl rfl ?_
        refine SXL.nil ?_
        refine thenQ.normal ?_
        refine SX.region ?_
        refine SXL.move rfl ?_
        refine SXL.move rfl ?_
        apply SXL.orG 4
        case hl => exact rfl
        case hd => exact rfl
        case hg => exact rfl
        case ht =>
          intro g4
          refine SXL.pass rfl rfl rfl ?_
          refine SXL.pass rfl rfl rfl ?_
          refine SXL.pass rfl rfl rfl ?_
          refine SXL.pass rfl rfl rfl ?_
          exact SXL.nil (segQ.mk (.skip rfl (.skip rfl (.skip rfl (.skip rfl (.skip rfl (EnvSub.refl _)))))) rfl rfl rfl)
        case hf =>
          intro g4
          refine SXL.fieldAddr fp_54_0 rfl ?_
          refine SXL.load1o 2 sh_3 rfl rfl rfl ?_
          refine SXL.move rfl ?_
          refine SXL.eqlI rfl rfl ?_
          exact SXL.nil (segQ.mk (.skip rfl (.skip rfl (.skip rfl (.skip rfl (.skip rfl (EnvSub.refl _)))))) rfl rfl ⟨rfl, rfl⟩)
        refine SXL.assign rfl ?_
        refine SXL.nil ?_
        refine blockQ.normal ?_
        refine thenQ.normal ?_
        refine SX.region ?_
        refine SXL.add rfl rfl (by omega) ?_
        refine SXL.move rfl ?_
        refine SXL.nil ?_
        refine thenQ.normal ?_
        refine ⟨k + 1, Meets.mk _ ⟨rfl, congrArg (fun z => some (Value.bool z)) (decide_eq_decide.2 (by rw [mem_take_succ (by simp; omega), numsL_at hk])), trivial⟩ ⟨rfl, rfl, rfl, rfl, rfl, rfl, rfl, rfl, rfl, rfl, rfl, trivial⟩ rfl, (by omega), (by omega)⟩
      · refine SX.exit ?_
        refine thenQ.exit ?_
        refine thenQ.exit ?_
        refine blockQ.exit ?_
        refine thenQ.normal ?_
        refine SX.seq ?_
        have hk9 : (numsL s).length = k := by omega
        refine SX.region ?_
        refine SXL.move rfl ?_
        refine SXL.not rfl ?_
        refine SXL.move rfl ?_
        apply SXL.orG 11
        case hl => exact rfl
        case hd => exact rfl
        case hg => exact rfl
        case ht =>
          intro c51
          refine SXL.pass rfl rfl rfl ?_
          refine SXL.pass rfl rfl rfl ?_
          refine SXL.pass rfl rfl rfl ?_
          refine SXL.pass rfl rfl rfl ?_
          refine SXL.pass rfl rfl rfl ?_
          refine SXL.pass rfl rfl rfl ?_
          refine SXL.pass rfl rfl rfl ?_
          refine SXL.pass rfl rfl rfl ?_
          refine SXL.pass rfl rfl rfl ?_
          refine SXL.pass rfl rfl rfl ?_
          refine SXL.pass rfl rfl rfl ?_
          exact SXL.nil (segQ.mk (.skip rfl (.skip rfl (.skip rfl (.skip rfl (.skip rfl (.skip rfl (.skip rfl (.skip rfl (.skip rfl (.skip rfl (.skip rfl (.skip rfl (EnvSub.refl _))))))))))))) rfl rfl rfl)
        case hf =>
          intro c51
          refine SXL.move rfl ?_
          refine SXL.gtr rfl rfl ?_
          refine SXL.move rfl ?_
          apply SXL.andG 7
          case hl => exact rfl
          case hd => exact rfl
          case hg => exact rfl
          case ht =>
            intro g50
            have hj1 : j - 1 < ns.length := by omega
            obtain ⟨b3, o3, ha3, hm3⟩ := oneI ha0 hj1
            have hji : ((j : Int) - 1).toNat = j - 1 := by omega
            refine SXL.move rfl ?_
            refine SXL.move rfl ?_
            refine SXL.sub rfl rfl (by omega) ?_
            refine SXL.indexR el_35 rfl rfl ha3 (by omega) ?_
            refine SXL.load1 sh_3 rfl (by rw [hji]; exact hm3 _) ?_
            refine SXL.move rfl ?_
            refine SXL.geq rfl rfl ?_
            exact SXL.nil (segQ.mk (.skip rfl (.skip rfl (.skip rfl (.skip rfl (.skip rfl (.skip rfl (.skip rfl (.skip rfl (EnvSub.refl _))))))))) rfl rfl ⟨rfl, rfl⟩)
          case hf =>
            intro g50
            refine SXL.pass rfl rfl rfl ?_
            refine SXL.pass rfl rfl rfl ?_
            refine SXL.pass rfl rfl rfl ?_
            refine SXL.pass rfl rfl rfl ?_
            refine SXL.pass rfl rfl rfl ?_
            refine SXL.pass rfl rfl rfl ?_
            refine SXL.pass rfl rfl rfl ?_
            exact SXL.nil (segQ.mk (.skip rfl (.skip rfl (.skip rfl (.skip rfl (.skip rfl (.skip rfl (.skip rfl (.skip rfl (EnvSub.refl _))))))))) rfl rfl rfl)
          exact SXL.nil (segQ.mk (.skip rfl (.skip rfl (.skip rfl (.skip rfl (EnvSub.refl _))))) rfl rfl ⟨rfl, rfl⟩)
        refine SXL.nil ?_
        refine thenQ.normal ?_
        refine SX.condP rfl (fun c51 => ?_) (fun c51 => ?_)
        · refine SX.seq ?_
          refine SX.region ?_
          refine SXL.buildS pl_27 zp_27 rfl rfl ?_
          refine SXL.store 1 sz_27 rfl rfl rfl rfl rfl rfl ?_
          refine SXL.assign rfl ?_
          refine SXL.nil ?_
          refine thenQ.normal ?_
          refine SX.ret ?_
          refine blockQ.ret ?_
          refine thenQ.ret ?_
          refine thenQ.ret ?_
          refine blockQ.ret ?_
          refine thenQ.ret ?_
          refine retQ.dead [Sl.nil.ent 61 [], Sl.nil.ent 54 []] rfl ?_
          refine retQ.two (ResAt.cellNo 1 sh_27 rfl rfl rfl) (ResAt.tmp rfl) ?_
          have he : strikeE s ns = 12 := by rw [strikeE, if_neg (not_not_intro hv), if_pos (fun hok => by
                have h1 := hok j (by omega)
                rcases c51 with h | h
                · exact h (by rw [← hk9, List.take_length]; exact h1.1)
                · have h2 := h1.2 (by omega)
                  omega)]
          rw [strike_bad he (by omega), he]; exact SpE.zero _
        · refine SX.skip ?_
          refine blockQ.normal ?_
          refine thenQ.normal ?_
          refine SX.region ?_
          refine SXL.add rfl rfl (by omega) ?_
          refine SXL.move rfl ?_
          refine SXL.nil ?_
          refine thenQ.normal ?_
          refine ⟨j + 1, Meets.mk _ ⟨rfl, trivial⟩ ⟨rfl, rfl, rfl, rfl, rfl, rfl, trivial⟩ rfl, ⟨by omega, hall.next (Decidable.byContradiction fun h => c51 (.inl (by rw [← hk9]; rw [List.take_length]; exact h))) (fun h0 => by
            rcases Int.lt_or_le (ns.getD (j - 1) 0) (ns.getD j 0) with h | h
            · exact h
            · exact absurd (.inr ⟨by omega, by first | exact h | (rw [hji]; exact h) | (rw [← hji]; exact h)⟩) c51)⟩, (by omega)⟩
    · refine SX.exit ?_
      refine thenQ.exit ?_
      refine thenQ.exit ?_
      refine blockQ.exit ?_
      refine thenQ.normal ?_
      refine SX.seq ?_
      obtain rfl : j = ns.length := by omega
      refine SX.region ?_
      refine SXL.loadNo 0 sh_27 rfl rfl rfl ?_
      refine SXL.move rfl ?_
      refine SXL.callF (SpR (wo s ns)) fn_85 rfl (fun w hI => rwithout_any s bo ro bc rc ns ao nc hn (by omega) (by omega) w (hs.inv hI) (ha0.inv hI)) ?_; rintro _ _ ⟨r1, r2, o1, o2, rfl, rfl⟩
      refine SXL.store 1 sz_27 rfl rfl rfl rfl rfl rfl ?_
      refine SXL.assign rfl ?_
      refine SXL.nil ?_
      refine thenQ.normal ?_
      refine SX.ret ?_
      refine retQ.sel [2, 3] rfl rfl ?_
      refine retQ.two (ResAt.cellNo 1 sh_27 rfl rfl rfl) (ResAt.tmp rfl) ?_
      have he : strikeE s ns = 0 := by rw [strikeE, if_neg (not_not_intro hv), if_neg (not_not_intro hall.all)]
      rw [strike_ok he, he]; exact ⟨r1, r2, o1, o2, rfl, rfl⟩
set_option maxHeartbeats 2000000 in
theorem rwrite_any (s : Sp) (bo ro : Option Addr) (bc rc : Nat) (y : Ln) (w : World) (hs : SpAt w s bo ro) :
    CallsR Tryd.prog 39 [.agg ⟨[.int .i64 s.weeks, .int .i64 s.most, .int .i64 s.fall, .int .i64 s.a0, .int .i64 s.a1, .int .i64 s.w0, .int .i64 s.w1, (.slice bo s.book.length bc), (.slice ro s.reads.length rc)]⟩, .agg ⟨y.cells⟩] w (SpE (writeS s y) (writeE s y)) := by
  refine CallsR.of_SX (n := 29) (rs := [.cell 4 27, .tmp 5]) Tryd.func39 rfl rfl rfl rfl ?_
  show SX _ _ _ ⟨[(0, .agg ⟨[.int .i64 s.weeks, .int .i64 s.most, .int .i64 s.fall, .int .i64 s.a0, .int .i64 s.a1, .int .i64 s.w0, .int .i64 s.w1, (.slice bo s.book.length bc), (.slice ro s.reads.length rc)]⟩), (1, .agg ⟨y.cells⟩)], [], []⟩
  refine SX.seq ?_
  refine SX.region ?_
  refine SXL.box rfl rfl ?_; intro b0
  refine SXL.box rfl rfl ?_; intro b1
  refine SXL.alloc zp_27 ?_; intro b2
  refine SXL.assign rfl ?_
  refine SXL.nil ?_
  refine thenQ.normal ?_
  refine SX.seq ?_
  refine SX.seq ?_
  refine SX.region ?_
  refine SXL.loadNo 0 sh_27 rfl rfl rfl ?_
  refine SXL.call1 (.bool (decide (SpP s))) fn_74 rfl (fun w hI => spring_any s bo ro bc rc _ (hs.inv hI)) ?_
  refine SXL.not rfl ?_
  refine SXL.nil ?_
  refine thenQ.normal ?_
  refine SX.condP rfl (fun c9 => ?_) (fun c9 => ?_)
  · refine SX.seq ?_
    refine SX.region ?_
    refine SXL.buildS pl_27 zp_27 rfl rfl ?_
    refine SXL.store 2 sz_27 rfl rfl rfl rfl rfl rfl ?_
    refine SXL.assign rfl ?_
    refine SXL.nil ?_
    refine thenQ.normal ?_
    refine SX.ret ?_
    refine thenQ.ret ?_
    refine retQ.dead [Sl.nil.ent 61 [], Sl.nil.ent 54 []] rfl ?_
    refine retQ.two (ResAt.cellNo 2 sh_27 rfl rfl rfl) (ResAt.tmp rfl) ?_
    have he : writeE s y = 10 := by rw [writeE, if_pos c9]
    rw [write_bad he (by omega), he]; exact SpE.zero _
  · refine SX.skip ?_
    refine thenQ.normal ?_
    refine SX.seq ?_
    refine SX.seq ?_
    have hv : SpP s := Decidable.not_not.1 c9
    have hH := hv.1
    unfold HeadP at hH
    refine SX.region ?_
    refine SXL.fieldAddr fp_27_5 rfl ?_
    refine SXL.load1o 0 sh_24 rfl rfl rfl ?_
    refine SXL.len is_24 rfl ?_
    refine SXL.eqlI rfl rfl ?_
    refine SXL.nil ?_
    refine thenQ.normal ?_
    refine SX.condP rfl (fun c14 => ?_) (fun c14 => ?_)
    · refine SX.seq ?_
      refine SX.region ?_
      refine SXL.buildS pl_27 zp_27 rfl rfl ?_
      refine SXL.store 2 sz_27 rfl rfl rfl rfl rfl rfl ?_
      refine SXL.assign rfl ?_
      refine SXL.nil ?_
      refine thenQ.normal ?_
      refine SX.ret ?_
      refine thenQ.ret ?_
      refine retQ.dead [Sl.nil.ent 61 [], Sl.nil.ent 54 []] rfl ?_
      refine retQ.two (ResAt.cellNo 2 sh_27 rfl rfl rfl) (ResAt.tmp rfl) ?_
      have he : writeE s y = 9 := by rw [writeE, if_neg (not_not_intro hv), if_pos (by omega)]
      rw [write_bad he (by omega), he]; exact SpE.zero _
    · refine SX.skip ?_
      refine thenQ.normal ?_
      refine SX.seq ?_
      refine SX.region ?_
      refine SXL.loadNo 0 sh_27 rfl rfl rfl ?_
      refine SXL.callF (SpR s) fn_17 rfl (fun w hI => twin_any s bo ro bc rc (by omega) (by omega) w (hs.inv hI)) ?_; rintro _ _ ⟨r1, r2, o1, o2, rfl, rfl⟩
      refine SXL.alloc zp_27 ?_; intro b5
      refine SXL.store 5 sz_27 rfl rfl rfl rfl rfl rfl ?_
      refine SXL.nil ?_
      refine thenQ.normal ?_
      refine SX.seq ?_
      refine SX.region ?_
      refine SXL.fieldAddr fp_27_5 rfl ?_
      refine SXL.load1o 5 sh_24 rfl rfl rfl ?_
      refine SXL.loadNo 1 sh_61 rfl rfl rfl ?_
      refine SXL.buildSlice et_24 zp_61 rfl rfl rfl rfl ?_; intro b6
      refine SXL.append 3 ap_24 rfl rfl o1 rfl (.inr ⟨_, _, rfl, Mem.own (i := 6) rfl (takeAt_all _)⟩) rfl rfl ⟨by simp only [maxLen]; omega, by omega⟩ ?_; intro r_22 o_22
      rw [show s.book.length + 1 = (withLine s y).book.length from by simp [withLine]] at o_22 ⊢
      refine SXL.fieldAddr fp_27_5 rfl ?_
      refine SXL.store 5 sz_24 rfl rfl rfl rfl rfl rfl ?_
      refine SXL.nil ?_
      refine thenQ.normal ?_
      refine SX.seq ?_
      refine SX.seq ?_
      refine SX.region ?_
      refine SXL.loadNo 5 sh_27 rfl rfl rfl ?_
      refine SXL.call1 (.bool (decide (SpP (withLine s y)))) fn_74 rfl (fun w hI => spring_any (withLine s y) r_22.addr r2.addr r_22.cap r2.cap _ (spAtOwn (s := (withLine s y)) hI (by rw [bookC_line]; exact o_22) o2 (i := 3) (j := 4) (by rw [bookC_line]; rfl) rfl)) ?_
      refine SXL.not rfl ?_
      refine SXL.nil ?_
      refine thenQ.normal ?_
      refine SX.condP rfl (fun c26 => ?_) (fun c26 => ?_)
      · refine SX.seq ?_
        refine SX.region ?_
        refine SXL.buildS pl_27 zp_27 rfl rfl ?_
        refine SXL.store 2 sz_27 rfl rfl rfl rfl rfl rfl ?_
        refine SXL.assign rfl ?_
        refine SXL.nil ?_
        refine thenQ.normal ?_
        refine SX.ret ?_
        refine thenQ.ret ?_
        refine retQ.dead [Sl.nil.ent 61 [], Sl.nil.ent 54 []] rfl ?_
        refine retQ.two (ResAt.cellNo 2 sh_27 rfl rfl rfl) (ResAt.tmp rfl) ?_
        have he : writeE s y = 13 := by rw [writeE, if_neg (not_not_intro hv), if_neg (by omega), if_pos c26]
        rw [write_bad he (by omega), he]; exact SpE.zero _
      · refine SX.skip ?_
        refine thenQ.normal ?_
        refine SX.seq ?_
        refine SX.region ?_
        refine SXL.loadNo 5 sh_27 rfl rfl rfl ?_
        refine SXL.store 2 sz_27 rfl rfl rfl rfl rfl rfl ?_
        refine SXL.assign rfl ?_
        refine SXL.nil ?_
        refine thenQ.normal ?_
        refine SX.ret ?_
        refine retQ.sel [3, 4] rfl rfl ?_
        refine retQ.two (ResAt.cellNo 2 sh_27 rfl rfl rfl) (ResAt.tmp rfl) ?_
        have he : writeE s y = 0 := by rw [writeE, if_neg (not_not_intro hv), if_neg (by omega), if_neg c26]
        rw [write_ok he, he]; exact ⟨r_22, r2, by rw [bookC_line]; exact o_22, o2, rfl, by rw [bookC_line]; rfl⟩
end Go.Proofs.YtknflipongbngaaDoor

/- The calculus' rules: '==' on bools. Nothing of the program stands here. -/
namespace Go.X
open Go Go.RowKit
def isBoolP (P : Program) (t : TypeId) : Bool := match P.underlying t with | some .bool => true | _ => false
section
variable {C : Cx} {Q : Post} {env : Env} {own : Own} {D : List Deferred} {ops : Array Oper} {rest : List Oper}
variable {d : Nat} {ty : TypeId} {pos : String} {aft : Array Edge} {g : Option (Nat × Bool)} {x y : Operand} {T T' : TypeId} {p q : Prop} [Decidable p] [Decidable q]
/-! ### where both sides are known to be the same -/
theorem SXL.eqlT {k : IntKind} {A : Int} (hx : ev env x = some (.int k A)) (hy : ev env y = some (.int k A))
    (h : SXL C ops rest Q ⟨(d, .bool true) :: env, own, D⟩) (hd : Nat.blt d C.n = true := by rfl) (hw : Wanted ops g env = some true := by rfl) :
    SXL C ops ({ dst := some d, op := .binOp .eql T x y T', type := ty, pos, after := aft, guard := g } :: rest) Q ⟨env, own, D⟩ :=
  SXL.eqlI hx hy (by rw [decide_eq_true (p := A = A) rfl]; exact h) hd hw
end
end Go.X

/- How long lists are that are handed back. Nothing of Go stands here. -/
namespace Go.S
end Go.S
