/- What the rows' lists and arguments give: the package's variables, springs, numbers. -/
import Derived.Test.YtknflipongbngaaDoorCards
import Derived.Test.YtknflipongbngaaDoorTie
import Derived.Test.YtknflipongbngaaDoorXArg
import Derived.Test.YtknflipongbngaaDoorD4
import Derived.Test.YtknflipongbngaaDoorFacts
import Derived.WalkKit
import Derived.ProofKit
import Derived.LaidMore
import Derived.LaidHandle
import Derived.LaidSub
import Derived.Stop.Joined
import Derived.Deep.DeepHandedRow
namespace Go.Proofs.YtknflipongbngaaDoor
open Go Go.X Go.S Go.RowKit Go.ChangeShapes Go.WideShapes Go.ChangeAt
theorem ownGd : ownKnob Tryd.prog.godebug = none := by kernel_rfl
theorem laidOut : laidOutB Tryd.prog = true := by kernel_rfl
theorem gChecks : Tryd.prog.globalNamed "aguador/spring.checks" = some 0 := by kernel_rfl
theorem tChecks : (Tryd.prog.globals[0]?).map (·.type) = some 131 := by kernel_rfl
theorem gNone : Tryd.prog.globalNamed "aguador/spring.none" = some 1 := by kernel_rfl
theorem tNone : (Tryd.prog.globals[1]?).map (·.type) = some 23 := by kernel_rfl
theorem cells130 : Tryd.prog.cellsOf 130 = 1 := by kernel_rfl
theorem cells131 : Tryd.prog.cellsOf 131 = 5 := by kernel_rfl
theorem cells28 : Tryd.prog.cellsOf 28 = 1 := by kernel_rfl
theorem cells3 : Tryd.prog.cellsOf 3 = 1 := by kernel_rfl
theorem cells23 : Tryd.prog.cellsOf 23 = 2 := by kernel_rfl
theorem int_val {H : Type} {enc : TypeId × Value → H} {P : Program} {w : World} {base : Nat} {sp : Nat → Bool} {held : Bool} {fuel : Nat} {t : TypeId} {cs : List Value} {k : IntKind} {n : Int} {p : List MemPlace}
    (hu : P.underlying t = some (.int k)) (h : DataW.trod enc P w base sp held fuel t cs = some (.lit (.int k n), p)) : cs = [.int k n] := by
  cases fuel with
  | zero => simp [DataW.trod] at h
  | succ m =>
    unfold DataW.trod at h
    rw [hu] at h
    split at h <;> simp_all
/-- The span 'none'. -/
theorem none_of_laid {l : List (String × DataW Unit)} {W : World} (h : laidMetH Tryd.prog l W) (hl : (l.filter fun x => x.2.handleName?.isNone) = [("aguador/spring.none", Rows.laid_aguador_spring_none)]) :
    ∀ j v, noneCells[j]? = some v → W.cell? ⟨1, 0 + j, none⟩ = some v := by
  have h1 := (laidMetH_iff.1 h).1
  rw [hl] at h1
  obtain ⟨ps, ⟨g, t, cs, fuel, p, q, hg, ht, hv, hd, _, _⟩, _⟩ := h1
  obtain rfl := Option.some.inj (gNone.symm.trans hg)
  obtain rfl := Option.some.inj (tNone.symm.trans ht)
  obtain ⟨y0, y1, n, hx, hlen, e0, e1⟩ := trod_struct2 Tryd.underlying23 hd
  obtain ⟨d0, p0⟩ := y0
  obtain ⟨d1, p1⟩ := y1
  simp only [Rows.laid_aguador_spring_none, Prod.mk.injEq, DataW.agg.injEq, List.cons.injEq, and_true] at hx
  obtain ⟨⟨rfl, rfl⟩, _⟩ := hx
  have c0 := int_val Tryd.underlying3 e0
  have c1 := int_val Tryd.underlying3 e1
  rw [cells3] at c0 c1
  rw [cells23] at hlen
  intro j v hj
  have hc := World.var?_cell hg hv j
  rw [Nat.zero_add]
  rw [hc]
  match j, hj with
  | 0, hj =>
    simp [noneCells] at hj
    subst hj
    have := congrArg (·[0]?) c0
    simpa using this
  | 1, hj =>
    simp [noneCells] at hj
    subst hj
    have := congrArg (·[0]?) c1
    simpa using this
  | j + 2, hj => simp [noneCells] at hj
/-- The table of checks. -/
theorem checks_of_laid {l : List (String × DataW Unit)} {W : World} (h : laidMetH Tryd.prog l W) (hl : ("aguador/spring.checks", Rows.laid_aguador_spring_checks) ∈ l) :
    ∀ j v, chkCells[j]? = some v → W.cell? ⟨0, 0 + j, none⟩ = some v := by
  obtain ⟨g, t, cs, fuel, p, hg, ht, hv, hd⟩ := h.funcs hl
  obtain rfl := Option.some.inj (gChecks.symm.trans hg)
  obtain rfl := Option.some.inj (tChecks.symm.trans ht)
  obtain ⟨xs, m, _, hx, hlen, hxl, hel⟩ := DataW.trod_array Tryd.underlying131 hd
  rw [cells130] at hel
  rw [cells131] at hlen
  have hds : xs.map (·.1) = (List.range 5).map fun k => DataW.agg [DataW.held ([97, 103, 117, 97, 100, 111, 114, 47, 115, 112, 114, 105, 110, 103, 46, 99, 104, 101, 99, 107, 115, 36] ++ [(49 + k : Nat).toUInt8])] := by
    have := congrArg (·.1) hx
    exact DataW.agg.inj (show DataW.agg (xs.map (·.1)) = DataW.agg _ from this.symm)
  intro j v hj
  have hc := World.var?_cell hg hv j
  rw [Nat.zero_add, hc]
  have hj5 : j < 5 := (List.getElem?_eq_some_iff.1 hj).1
  have he := hel j hj5
  rw [List.getElem?_eq_getElem (by omega)] at he
  have hd1 : (xs[j]'(by omega)).1 = DataW.agg [DataW.held ([97, 103, 117, 97, 100, 111, 114, 47, 115, 112, 114, 105, 110, 103, 46, 99, 104, 101, 99, 107, 115, 36] ++ [(49 + j : Nat).toUInt8])] := by
    have := congrArg (·[j]?) hds
    simp only [List.getElem?_map, List.getElem?_eq_getElem (show j < xs.length by omega), List.getElem?_range hj5, Option.map_some, Option.some.injEq] at this
    exact this
  obtain ⟨y0, n, hy, hyl, hf⟩ := trod_struct1 Tryd.underlying130 he
  rw [hy] at hd1
  obtain ⟨d0, p0⟩ := y0
  simp only [DataW.agg.injEq, List.cons.injEq, and_true] at hd1
  subst hd1
  rw [cells130] at hyl
  rw [cells28] at hf
  have hcell : ∃ u, cs.toList[j]? = some u := ⟨cs.toList[j]'(by omega), List.getElem?_eq_getElem (by omega)⟩
  obtain ⟨u, hu⟩ := hcell
  have ecs : ((((cs.toList.drop (j * 1)).take 1).drop 0).take 1) = [u] := by
    rw [Nat.mul_one, List.drop_zero]
    obtain ⟨h1, h2⟩ := List.getElem?_eq_some_iff.1 hu
    rw [List.drop_eq_getElem_cons h1, h2]
    rfl
  rw [ecs] at hf
  have key : ∀ (j : Nat) (u : Value) (q : List MemPlace), j < 5 → DataW.trod (funcToken Tryd.prog) Tryd.prog W 0 (fun _ => true) true n 28 [u] = some (.held ([97, 103, 117, 97, 100, 111, 114, 47, 115, 112, 114, 105, 110, 103, 46, 99, 104, 101, 99, 107, 115, 36] ++ [(49 + j : Nat).toUInt8]), q) → chkCells[j]? = some u := by
    intro j u q hj h
    match j, hj with
    | 0, _ => obtain rfl := func_of_trod (f0 := 153) Tryd.underlying28 (by kernel_rfl) h; rfl
    | 1, _ => obtain rfl := func_of_trod (f0 := 154) Tryd.underlying28 (by kernel_rfl) h; rfl
    | 2, _ => obtain rfl := func_of_trod (f0 := 155) Tryd.underlying28 (by kernel_rfl) h; rfl
    | 3, _ => obtain rfl := func_of_trod (f0 := 156) Tryd.underlying28 (by kernel_rfl) h; rfl
    | 4, _ => obtain rfl := func_of_trod (f0 := 159) Tryd.underlying28 (by kernel_rfl) h; rfl
  have hk := key j u _ hj5 hf
  rw [hj] at hk
  obtain rfl := Option.some.inj hk
  simpa using hu
def i5 : List Ly := [.i .i64, .i .i64, .i .i64, .i .i64, .i .i64]
def spLay : List Ly := [.i .i64, .i .i64, .i .i64, .i .i64, .i .i64, .i .i64, .i .i64, .s i5, .s i5]
theorem lay27 : layP Tryd.prog 9 27 = some spLay := by kernel_rfl
theorem lay54 : layP Tryd.prog 9 54 = some i5 := by kernel_rfl
theorem lay61 : layP Tryd.prog 9 61 = some i5 := by kernel_rfl
theorem lay3 : layP Tryd.prog 9 3 = some [.i .i64] := by kernel_rfl
theorem _root_.Go.X.FitL.un {one : Ly → Value → Prop} {y : Ly} {ys : List Ly} {vs : List Value} (h : FitL one (y :: ys) vs) : ∃ v r, vs = v :: r ∧ one y v ∧ FitL one ys r := by
  cases vs with
  | nil => exact h.elim
  | cons v r => exact ⟨v, r, rfl, h.1, h.2⟩
theorem _root_.Go.X.FitL.end_ {one : Ly → Value → Prop} {vs : List Value} (h : FitL one [] vs) : vs = [] := by
  cases vs with
  | nil => rfl
  | cons v r => exact h.elim
theorem fits5 {w : World} {n : Nat} {cs : List Value} (h : Fits w (n + 1) i5 cs) : ∃ a b c d e : Int, cs = [.int .i64 a, .int .i64 b, .int .i64 c, .int .i64 d, .int .i64 e] := by
  obtain ⟨_, r, rfl, h1, h⟩ := FitL.un h
  obtain ⟨_, r, rfl, h2, h⟩ := FitL.un h
  obtain ⟨_, r, rfl, h3, h⟩ := FitL.un h
  obtain ⟨_, r, rfl, h4, h⟩ := FitL.un h
  obtain ⟨_, r, rfl, h5, h⟩ := FitL.un h
  obtain rfl := FitL.end_ h
  obtain ⟨a, rfl, _⟩ := fit_i64 h1
  obtain ⟨b, rfl, _⟩ := fit_i64 h2
  obtain ⟨c, rfl, _⟩ := fit_i64 h3
  obtain ⟨d, rfl, _⟩ := fit_i64 h4
  obtain ⟨e, rfl, _⟩ := fit_i64 h5
  exact ⟨a, b, c, d, e, rfl⟩
/-- A slice of lines, of readings. -/
theorem rowsLn {w : World} {n : Nat} {rows : List (List Value)} (h : ∀ r ∈ rows, Fits w (n + 1) i5 r) : ∃ l : List Ln, rows = l.map Ln.cells :=
  exists_map fun r hr => by obtain ⟨a, b, c, d, e, rfl⟩ := fits5 (h r hr); exact ⟨⟨a, b, c, d, e⟩, rfl⟩
theorem rowsRd {w : World} {n : Nat} {rows : List (List Value)} (h : ∀ r ∈ rows, Fits w (n + 1) i5 r) : ∃ l : List Rd, rows = l.map Rd.cells :=
  exists_map fun r hr => by obtain ⟨a, b, c, d, e, rfl⟩ := fits5 (h r hr); exact ⟨⟨a, b, c, d, e⟩, rfl⟩
/-- A spring that came in. -/
theorem sp_of_fits {w : World} {cs : List Value} (h : Fits w 10 spLay cs) : ∃ s bo ro bc rc, cs = sp9 s bo ro bc rc ∧ SpAt w s bo ro := by
  obtain ⟨_, r, rfl, h1, h⟩ := FitL.un h
  obtain ⟨_, r, rfl, h2, h⟩ := FitL.un h
  obtain ⟨_, r, rfl, h3, h⟩ := FitL.un h
  obtain ⟨_, r, rfl, h4, h⟩ := FitL.un h
  obtain ⟨_, r, rfl, h5, h⟩ := FitL.un h
  obtain ⟨_, r, rfl, h6, h⟩ := FitL.un h
  obtain ⟨_, r, rfl, h7, h⟩ := FitL.un h
  obtain ⟨_, r, rfl, h8, h⟩ := FitL.un h
  obtain ⟨_, r, rfl, h9, h⟩ := FitL.un h
  obtain rfl := FitL.end_ h
  obtain ⟨a1, rfl, _⟩ := fit_i64 h1
  obtain ⟨a2, rfl, _⟩ := fit_i64 h2
  obtain ⟨a3, rfl, _⟩ := fit_i64 h3
  obtain ⟨a4, rfl, _⟩ := fit_i64 h4
  obtain ⟨a5, rfl, _⟩ := fit_i64 h5
  obtain ⟨a6, rfl, _⟩ := fit_i64 h6
  obtain ⟨a7, rfl, _⟩ := fit_i64 h7
  obtain ⟨bo, n1, c1, rows1, rfl, _, _, e1, m1, f1⟩ := h8
  obtain ⟨ro, n2, c2, rows2, rfl, _, _, e2, m2, f2⟩ := h9
  obtain ⟨l1, rfl⟩ := rowsLn f1
  obtain ⟨l2, rfl⟩ := rowsRd f2
  rw [List.length_map] at e1 e2
  subst e1 e2
  exact ⟨⟨a1, a2, a3, a4, a5, a6, a7, l1, l2⟩, bo, ro, c1, c2, rfl, m1, m2⟩
end Go.Proofs.YtknflipongbngaaDoor
