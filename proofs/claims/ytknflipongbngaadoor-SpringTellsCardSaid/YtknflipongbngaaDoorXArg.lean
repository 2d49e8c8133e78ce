/- Arguments as they come in: what a value that reads as data is made of; what is asked behind a call that hands back true. Nothing of the program stands here. -/
import Derived.Test.YtknflipongbngaaDoorXData
import Derived.ChangeArms
import Derived.ChangeSame
import Derived.Carry
import Derived.OpenShut
import Derived.ChangeCalls
namespace Go.X
open Go Go.RowKit
/-- A cell: a number, a bool, a slice of rows. -/
inductive Ly where
  | i (k : IntKind)
  | b
  | s (e : List Ly)
def layFs (lay : TypeId → Option (List Ly)) (P : Program) : List Field → Nat → Option (List Ly)
  | [], _ => some []
  | f :: fs, off => bif Nat.beq f.offset off then (match lay f.type with
    | some l => bif Nat.beq l.length (P.cellsOf f.type) then (layFs lay P fs (off + l.length)).map (l ++ ·) else none
    | none => none) else none
def layP (P : Program) : Nat → TypeId → Option (List Ly)
  | 0, _ => none
  | n + 1, t => match P.underlying t with
    | some (.int k) => some [.i k]
    | some .bool => some [.b]
    | some (.slice e) => (match layP P n e with
      | some l => bif Nat.beq l.length (P.cellsOf e) && Nat.ble 1 l.length then some [.s l] else none
      | none => none)
    | some (.struct fs) => (match layFs (layP P n) P fs.toList 0 with
      | some l => bif Nat.beq l.length (P.cellsOf t) then some l else none
      | none => none)
    | _ => none
def FitY (w : World) (fits : List Ly → List Value → Prop) : Ly → Value → Prop
  | .i k, v => ∃ x, v = .int k x ∧ k.min ≤ x ∧ x ≤ k.max
  | .b, v => ∃ b, v = .bool b
  | .s e, v => ∃ ao len cap rows, v = .slice ao len cap ∧ len ≤ cap ∧ cap ≤ maxLen ∧ rows.length = len ∧ RowsAt w ao e.length rows ∧ ∀ r ∈ rows, fits e r
def FitL (one : Ly → Value → Prop) : List Ly → List Value → Prop
  | [], [] => True
  | y :: ys, v :: vs => one y v ∧ FitL one ys vs
  | _, _ => False
/-- What cells of a layout are. -/
def Fits (w : World) : Nat → List Ly → List Value → Prop
  | 0 => fun _ _ => False
  | n + 1 => FitL (FitY w (Fits w n))
theorem FitL.append {one : Ly → Value → Prop} : ∀ {a b : List Ly} {vs : List Value}, FitL one a (vs.take a.length) → FitL one b (vs.drop a.length) → FitL one (a ++ b) vs
  | [], b, vs, _, h => by simpa using h
  | y :: ys, b, [], h, _ => by simp [FitL] at h
  | y :: ys, b, v :: vs, h, h' => by
    simp only [List.length_cons, List.take_succ_cons, List.drop_succ_cons, FitL] at h h'
    exact ⟨h.1, FitL.append h.2 h'⟩
theorem FitL.length {one : Ly → Value → Prop} : ∀ {a : List Ly} {vs : List Value}, FitL one a vs → vs.length = a.length
  | [], [], _ => rfl
  | [], _ :: _, h => h.elim
  | _ :: _, [], h => h.elim
  | _ :: ys, _ :: vs, h => by simp [FitL.length h.2]
section
open Go.ChangeShapes
variable {H : Type} {enc : TypeId × Value → H} {P : Program} {w : World} {base : Nat} {sp : Nat → Bool} {held : Bool}
theorem fits_fields {n : Nat} {cs : List Value} {get : Field → Option (DataW H × List MemPlace)} (hf : ∀ (t : TypeId) (l : List Ly) (vs : List Value), layP P n t = some l → ∀ m x, DataW.trod enc P w base sp held m t vs = some x → Fits w (n + 1) l vs) {m : Nat} :
    ∀ {fs : List Field} {off : Nat} {l : List Ly}, layFs (layP P n) P fs off = some l → cs.length = off + l.length →
      (∀ f ∈ fs, ∃ x, DataW.trod enc P w base sp held m f.type ((cs.drop f.offset).take (P.cellsOf f.type)) = some x) → Fits w (n + 1) l (cs.drop off)
  | [], off, l, h, hl, _ => by
    simp [layFs] at h; subst h
    rw [List.drop_eq_nil_of_le (by simp at hl; omega)]
    trivial
  | f :: fs, off, l, h, hl, hx => by
    simp only [layFs] at h
    cases hb : Nat.beq f.offset off <;> rw [hb] at h <;> simp only [cond_true, cond_false] at h
    · cases h
    · have e0 := Nat.eq_of_beq_eq_true hb
      split at h
      · rename_i l1 h1
        cases hb2 : Nat.beq l1.length (P.cellsOf f.type) <;> rw [hb2] at h <;> simp only [cond_true, cond_false] at h
        · cases h
        · have e1 := Nat.eq_of_beq_eq_true hb2
          cases h2 : layFs (layP P n) P fs (off + l1.length) with
          | none => rw [h2] at h; cases h
          | some l2 =>
            rw [h2] at h
            simp at h; subst h
            obtain ⟨x, hx1⟩ := hx f (by simp)
            have a := hf f.type l1 _ h1 m x hx1
            have b := fits_fields (get := get) hf h2 (by simp at hl; omega) (fun g hg => hx g (by simp [hg]))
            refine FitL.append ?_ ?_
            · rw [e0, ← e1] at a; exact a
            · rw [List.drop_drop]; exact b
      · cases h
theorem fits_mono {n : Nat} : ∀ {l : List Ly} {cs : List Value}, Fits w n l cs → Fits w (n + 1) l cs := by
  induction n with
  | zero => intro l cs h; exact h.elim
  | succ n ih =>
    intro l
    induction l with
    | nil => intro cs h; cases cs <;> simp_all [Fits, FitL]
    | cons y ys ihl =>
      intro cs h
      cases cs with
      | nil => exact h.elim
      | cons v vs =>
        refine ⟨?_, ihl h.2⟩
        have h1 := h.1
        cases y with
        | i k => exact h1
        | b => exact h1
        | s e =>
          obtain ⟨ao, len, cap, rows, e1, e2, e3, e4, e5, e6⟩ := h1
          exact ⟨ao, len, cap, rows, e1, e2, e3, e4, e5, fun r hr => ih (e6 r hr)⟩
theorem cells_get {a : Addr} {k : Nat} {vs : List Value} (h : w.cells? base a k = some vs) : vs.length = k ∧ ∀ j, j < k → w.cell? (a.add j) = vs[j]? := by
  unfold World.cells? at h
  split at h
  · exact ⟨by simpa using mapM_some_length h, fun j hj => mapM_some_get h j j (by simp [hj])⟩
  · cases h
theorem fits_of_trod : ∀ {n : Nat} {t : TypeId} {l : List Ly} {cs : List Value}, layP P n t = some l → ∀ m x, DataW.trod enc P w base sp held m t cs = some x → Fits w (n + 1) l cs
  | 0, _, _, _, h, _, _, _ => by cases h
  | n + 1, t, l, cs, h, m, x, hx => by
    unfold layP at h
    split at h
    · rename_i k hu
      simp at h; subst h
      cases m with
      | zero => simp [DataW.trod] at hx
      | succ m =>
        unfold DataW.trod at hx
        rw [hu] at hx
        split at hx <;> simp_all [Fits, FitL, FitY, Lit.wf]
    · rename_i hu
      simp at h; subst h
      cases m with
      | zero => simp [DataW.trod] at hx
      | succ m =>
        unfold DataW.trod at hx
        rw [hu] at hx
        split at hx <;> simp_all [Fits, FitL, FitY]
    · rename_i e hu
      split at h
      · rename_i le hle
        cases hb : (Nat.beq le.length (P.cellsOf e) && Nat.ble 1 le.length) <;> rw [hb] at h <;> simp only [cond_true, cond_false] at h
        · cases h
        · simp at h; subst h
          simp only [Bool.and_eq_true] at hb
          have e1 := Nat.eq_of_beq_eq_true hb.1
          have e2 := Nat.le_of_ble_eq_true hb.2
          rcases DataW.trod_slice hu hx with ⟨rfl, _⟩ | ⟨a, len, cap, elems, rest, m', _, rfl, _, hba, hlc, hcm, hel, hget, _, _⟩
          · exact ⟨⟨none, 0, 0, [], rfl, Nat.le_refl _, Nat.zero_le _, rfl, .nil _ _ _, fun r hr => by cases hr⟩, trivial⟩
          · rw [← e1] at hget
            have hrow : ∀ i, i < len → ∃ vs y, w.cells? base (a.add (i * le.length)) le.length = some vs ∧ DataW.trod enc P w base sp held m' e vs = some y := by
              intro i hi
              have := hget i hi
              cases hc : w.cells? base (a.add (i * le.length)) le.length with
              | none => rw [hc] at this; simp at this; omega
              | some vs =>
                rw [hc] at this
                simp only [Option.bind_some] at this
                rw [List.getElem?_eq_getElem (by omega)] at this
                exact ⟨vs, _, rfl, this⟩
            let rows : List (List Value) := (List.range len).map fun i => (w.cells? base (a.add (i * le.length)) le.length).getD []
            have hrl : rows.length = len := by simp [rows]
            have hrg : ∀ i r, rows[i]? = some r → i < len ∧ w.cells? base (a.add (i * le.length)) le.length = some r := by
              intro i r hr
              have hi : i < len := by have := (List.getElem?_eq_some_iff.1 hr).1; omega
              obtain ⟨vs, y, h1, h2⟩ := hrow i hi
              simp only [rows, List.getElem?_map, List.getElem?_range hi, Option.map_some, h1, Option.getD_some, Option.some.injEq] at hr
              subst hr
              exact ⟨hi, h1⟩
            refine ⟨⟨some a, len, cap, rows, rfl, hlc, hcm, hrl, ?_, ?_⟩, trivial⟩
            · by_cases h0 : len = 0
              · left
                exact List.eq_nil_of_length_eq_zero (by omega)
              · right
                obtain ⟨vs, y, h1, h2⟩ := hrow 0 (by omega)
                have hc := (cells_get h1).2 0 (by omega)
                rw [Nat.zero_mul] at hc
                have hs : a.spot = none := by
                  have hv : ∃ v, w.cell? a = some v := by
                    have hl := (cells_get h1).1
                    refine ⟨vs[0]'(by omega), ?_⟩
                    rw [List.getElem?_eq_getElem (by omega)] at hc
                    exact hc
                  obtain ⟨v, hv⟩ := hv
                  unfold World.cell? at hv
                  split at hv
                  · split at hv
                    · cases hv
                    · rename_i hn; simpa using hn
                  · cases hv
                obtain ⟨b, o, s⟩ := a
                simp only at hs
                subst hs
                refine ⟨b, o, rfl, fun i r hr j u hj => ?_⟩
                obtain ⟨hi, h3⟩ := hrg i r hr
                have h4 := cells_get h3
                have hjl : j < le.length := by have := (List.getElem?_eq_some_iff.1 hj).1; omega
                have := h4.2 j hjl
                rw [hj, addr_add, addr_add] at this
                exact this
            · intro r hr
              obtain ⟨i, hi⟩ := List.getElem?_of_mem hr
              obtain ⟨hlt, h3⟩ := hrg i r hi
              obtain ⟨vs, y, h1, h2⟩ := hrow i hlt
              rw [h3] at h1
              obtain rfl := Option.some.inj h1
              exact fits_of_trod hle _ _ h2
      · cases h
    · rename_i fs hu
      split at h
      · rename_i l1 h1
        cases hb : Nat.beq l1.length (P.cellsOf t) <;> rw [hb] at h <;> simp only [cond_true, cond_false] at h
        · cases h
        · simp at h; subst h
          have e1 := Nat.eq_of_beq_eq_true hb
          obtain ⟨xs, m', _, _, hcl, hxl, hget⟩ := DataW.trod_struct hu hx
          have := fits_fields (n := n) (cs := cs) (get := fun _ => none) (m := m') (fun t l vs h m x hx => fits_of_trod h m x hx) h1 (by omega) (fun f hf => by
            obtain ⟨i, hi⟩ := List.getElem?_of_mem hf
            have hi' : fs[i]? = some f := by simpa using hi
            have hlt : i < xs.length := by rw [hxl]; exact (Array.getElem?_eq_some_iff.1 hi').1
            rw [hget i f hi', List.getElem?_eq_getElem hlt]
            exact ⟨_, rfl⟩)
          simpa using fits_mono this
      · cases h
    · cases h
theorem exists_map {α : Type} {f : α → List Value} : ∀ {rows : List (List Value)}, (∀ r ∈ rows, ∃ x, r = f x) → ∃ l : List α, rows = l.map f
  | [], _ => ⟨[], rfl⟩
  | r :: rows, h => by
    obtain ⟨x, rfl⟩ := h r (by simp)
    obtain ⟨l, rfl⟩ := exists_map (rows := rows) fun q hq => h q (by simp [hq])
    exact ⟨x :: l, rfl⟩
/-- Arguments read as they did, as long as all that there was is kept. -/
theorem below_all (hl : laidOutB P = true) {W W' : World} (hb : Below W.heap.size W W') : ∀ {ts : List TypeId} {vs : List Value} {ds : List (DataW H)} {ps : List MemPlace},
    (ts.all fun t => P.readableRec t && decide (t < P.types.size)) = true → (∀ x ∈ ps, x.block < W.heap.size) → DataW.TrodAll enc P W 0 (fun _ => true) true ts vs ds ps → DataW.TrodAll enc P W' 0 (fun b => decide (b < W.heap.size)) true ts vs ds ps
  | [], vs, ds, ps, _, _, h => by
    obtain ⟨rfl, rfl, rfl⟩ := trodAll_nil h
    rfl
  | t :: ts, vs, ds, ps, hr, hlt, h => by
    obtain ⟨v, vs1, d, ds1, a, b, rfl, rfl, rfl, h1, h2⟩ := trodAll_cons h
    simp only [List.all_cons, Bool.and_eq_true, decide_eq_true_eq] at hr
    exact ⟨a, b, Below.trod hl hr.1.1 hr.1.2 h1 hb (fun x hx => hlt x (by simp [hx])), below_all hl hb hr.2 (fun x hx => hlt x (by simp [hx])) h2, rfl⟩
/-- What is asked behind a call of a law that handed back true and kept all that there was. -/
theorem law_post {f : Func} {s : ChangeSpec} {W W' : World} {args : Array Value} {ds gs : List (DataW H)} {before : List MemPlace} {tb : TypeId} (hl : laidOutB P = true)
    (hr : (f.params.toList.all fun t => P.readableRec t && decide (t < P.types.size)) = true) (hv : s.vars = []) (hs : ∀ ds : List (DataW H), ds.length = f.params.toList.length → s.fn H ds = { results := [.lit (.bool true)], args := ds })
    (hrt : f.resultTypes = #[tb]) (htb : P.underlying tb = some .bool) (hW : DataW.Whole enc P f.params.toList s.vars false W args.toList ds gs before) (hb : Below W.heap.size W W') :
    s.post enc P f false true false false W args (.bool true) W' := by
  have hW' := hW
  obtain ⟨p, q, hA, hV, rfl, _, _⟩ := hW
  rw [hv] at hV
  obtain ⟨rfl, rfl⟩ := trodVars_none hV
  have hlen : ds.length = f.params.toList.length := (Go.trodAll_length hA).2
  have hfn := hs ds hlen
  have hlt : ∀ x ∈ p, x.block < W.heap.size := fun x hx => hW'.lt x (by simp [hx])
  refine ⟨ds, [], p ++ [], [], p, [], hW', ?_, ?_, ?_, hb.frame _, fun h => by cases h⟩
  · rw [List.append_nil, hfn, hrt]
    exact trodAll_mk1 (shut_bool htb true)
  · rw [List.append_nil, hfn]
    exact below_all hl hb hr hlt hA
  · rw [List.append_nil, hfn, hv]
    exact rfl
/-- An argument of a struct's type. -/
theorem arg_struct {t : TypeId} {v : Value} {d : DataW H} {ps : List MemPlace} {n : Nat} {l : List Ly} (hlay : layP P n t = some l) (hu : ∃ fs, P.underlying t = some (.struct fs)) {r : Reach} {b : Nat} (hok : Value.okWide P w r b t v) (h : DataW.Trod enc P w base sp held t v d ps) :
    ∃ cs, v = .agg ⟨cs⟩ ∧ Fits w (n + 1) l cs := by
  obtain ⟨fs, hu⟩ := hu
  unfold Value.okWide at hok
  rw [hu] at hok
  obtain ⟨cs, rfl, _, _⟩ := hok
  obtain ⟨fuel, hx⟩ := h
  exact ⟨cs.toList, rfl, fits_of_trod hlay _ _ hx⟩
/-- .. of one cell. -/
theorem arg_cell {t : TypeId} {v : Value} {d : DataW H} {ps : List MemPlace} {n : Nat} {y : Ly} (hlay : layP P n t = some [y]) (hu : (P.underlying t).any (fun u => match u with | .struct _ => false | .array _ _ => false | _ => true) = true) {r : Reach} {b : Nat} (hok : Value.okWide P w r b t v) (h : DataW.Trod enc P w base sp held t v d ps) :
    FitY w (Fits w n) y v := by
  obtain ⟨fuel, hx⟩ := h
  have hc : v.cells.toList = [v] := by
    unfold Value.okWide at hok
    cases ho : P.underlying t with
    | none => rw [ho] at hu; cases hu
    | some u =>
      rw [ho] at hu hok
      cases v <;> first | rfl | skip
      all_goals (cases u <;> simp_all [Cell.okWide, Cell.ok])
  rw [hc] at hx
  exact (fits_of_trod hlay _ _ hx).1
theorem fit_i64 {f : List Ly → List Value → Prop} {v : Value} (h : FitY w f (.i .i64) v) : ∃ x : Int, v = .int .i64 x ∧ -9223372036854775808 ≤ x ∧ x ≤ 9223372036854775807 := by
  obtain ⟨x, h1, h2, h3⟩ := h
  exact ⟨x, h1, by simpa [IntKind.min, IntKind.signed, IntKind.bits] using h2, by simpa [IntKind.max, IntKind.signed, IntKind.bits] using h3⟩
theorem fit_u8 {f : List Ly → List Value → Prop} {v : Value} (h : FitY w f (.i .u8) v) : ∃ x : Int, v = .int .u8 x ∧ 0 ≤ x ∧ x ≤ 255 := by
  obtain ⟨x, h1, h2, h3⟩ := h
  exact ⟨x, h1, by simpa [IntKind.min, IntKind.signed, IntKind.bits] using h2, by simpa [IntKind.max, IntKind.signed, IntKind.bits] using h3⟩
theorem fit_u16 {f : List Ly → List Value → Prop} {v : Value} (h : FitY w f (.i .u16) v) : ∃ x : Int, v = .int .u16 x ∧ 0 ≤ x ∧ x ≤ 65535 := by
  obtain ⟨x, h1, h2, h3⟩ := h
  exact ⟨x, h1, by simpa [IntKind.min, IntKind.signed, IntKind.bits] using h2, by simpa [IntKind.max, IntKind.signed, IntKind.bits] using h3⟩
end
end Go.X
