/- The calculus' rules: slices of the call's own that grow. Nothing of the program stands here. -/
import Derived.Test.YtknflipongbngaaDoorXData
import Derived.Laws.AppendOwn
namespace Go.X
open Go Go.RowKit

/-- A slice of the call's own: nil, or at the start of a block of its own; behind its elements the spare. -/
structure Sl where
  blk : Option Nat
  cap : Nat
  sp : List Value
def Sl.nil : Sl := ⟨none, 0, []⟩
def Sl.addr (r : Sl) : Option Addr := r.blk.map fun b => ⟨b, 0, none⟩
def Sl.val (r : Sl) (n : Nat) : Value := .slice r.addr n r.cap
def Sl.ent (r : Sl) (E : TypeId) (cells : List Value) : Nat × Obj := (r.blk.getD 0, .cells ⟨bif r.blk.isSome then cells ++ r.sp else []⟩ E (0, 0))
structure Sl.Ok (r : Sl) (n size : Nat) (cells : List Value) : Prop where
  len : cells.length = n * size
  cap : n ≤ r.cap
  max : r.cap ≤ maxLen
  nil : r.blk = none → r.cap = 0
  full : ∀ b, r.blk = some b → cells.length + r.sp.length = r.cap * size
theorem Sl.Ok.none (size : Nat) : Sl.nil.Ok 0 size [] := ⟨by simp, Nat.le_refl _, by simp [Sl.nil], fun _ => rfl, fun _ h => by cases h⟩
/-- An empty slice that is not nil. -/
theorem Sl.Ok.empty (size b : Nat) : (Sl.mk (some b) 0 []).Ok 0 size [] := ⟨by simp, Nat.le_refl _, by simp, fun _ => rfl, fun _ _ => by simp⟩
theorem Sl.Ok.some {r : Sl} {n size : Nat} {cells : List Value} (h : r.Ok n size cells) (hn : 0 < n) : ∃ b, r.blk = some b := by
  cases hb : r.blk with
  | none => have := h.nil hb; have := h.cap; omega
  | some b => exact ⟨b, rfl⟩

def apP (P : Program) (t : TypeId) : Option (TypeId × Nat × Nat) :=
  match P.underlying t with
  | some (.slice e) => match P.info? e with
    | some i => match i.zero with
      | some z => match Nat.beq z.cells.size i.size, Nat.blt 0 i.size with
        | true, true => some (e, i.size, i.bytes)
        | _, _ => none
      | none => none
    | none => none
  | _ => none
theorem apP_spec {P : Program} {t e : TypeId} {size bytes : Nat} (h : apP P t = some (e, size, bytes)) :
    ∃ i z, P.underlying t = some (.slice e) ∧ P.info? e = some i ∧ i.zero = some z ∧ i.size = size ∧ i.bytes = bytes ∧ z.cells.size = size ∧ 0 < size := by
  unfold apP at h
  split at h
  · rename_i e' hu
    split at h
    · rename_i i hi
      split at h
      · rename_i z hz
        split at h
        · rename_i h1 h2
          simp at h
          obtain ⟨rfl, rfl, rfl⟩ := h
          exact ⟨i, z, hu, hi, hz, rfl, rfl, Nat.eq_of_beq_eq_true h1, by rwa [Nat.blt_eq] at h2⟩
        · cases h
      · cases h
    · cases h
  · cases h
theorem isOne_one {v : Value} (h : isOne v = true) : v.oneCell' = true := by cases v <;> first | rfl | (cases h)

/-- What an append onto a slice of the call's own leaves. -/
theorem run_append_sl {P : Program} {w0 w : World} {own : Own} (hI : Inv w0 own w) {i n m c size bytes : Nat} {t ty E : TypeId} {r : Sl} {cells news : List Value} {ao : Option Addr}
    (hap : apP P t = some (E, size, bytes)) (hok : r.Ok n size cells) (hi : own[i]? = some (r.ent E cells))
    (hsrc : m = 0 ∨ ∃ b off, ao = some ⟨b, off, none⟩ ∧ ∀ j v, news[j]? = some v → w.cell? ⟨b, off + j, none⟩ = some v) (hnl : news.length = m * size) (hn1 : news.all isOne = true)
    (hmax : n + m ≤ maxLen) (hby : (n + m) * bytes ≤ 140737488355328) :
    ∃ r' w', (Builtin.append_ #[t, t] ty #[r.val n, .slice ao m c]).run P w = .ok (Sl.val r' (n + m)) w' ∧ r'.Ok (n + m) size (cells ++ news) ∧ Inv w0 (own.set i (r'.ent E (cells ++ news))) w' := by
  obtain ⟨inf, z, hu, hinf, hz, hs, hb, hzs, hpos⟩ := apP_spec hap
  have hm63 : n + m ≤ 9223372036854775807 := by simp only [maxLen] at hmax; omega
  by_cases hm : m = 0
  · subst hm
    have hnn : news = [] := List.eq_nil_of_length_eq_zero (by simpa using hnl)
    subst hnn
    have hc := hok.cap
    refine ⟨r, w, ?_, by simpa using hok, ?_⟩
    · cases hblk : r.blk <;> cases ao <;> simp [Builtin.append_, run_underlying hu, sizeOf, typeInfo, hinf, Builtin.lenOf, Builtin.firstCells, loadCells, loadCellsFrom, Sl.val, Sl.addr, hblk, hc, storeCells, Result.andThen]
    · rw [List.append_nil]
      have hlt := (List.getElem?_eq_some_iff.1 hi).1
      have : own.set i (r.ent E cells) = own := by
        apply List.ext_getElem?
        intro j
        rw [List.getElem?_set]
        split
        · rename_i h; subst h; exact hi.symm
        · rfl
      rw [this]; exact hI
  · obtain ⟨b, off, rfl, hnews⟩ := hsrc.resolve_left hm
    have hnews' : ∀ j v, news[j]? = some v → w.cell? ((⟨b, off, none⟩ : Addr).add j) = some v := fun j v hj => by rw [addr_add]; exact hnews j v hj
    have hlen : (cells ++ news).length = (n + m) * size := by rw [List.length_append, hok.len, hnl, Nat.add_mul]
    -- the growing arm
    have grown : ∀ (old : Nat), old < n + m → ∀ w', w' = w.drew.alloc (.cells (cells.toArray ++ news.toArray ++ Builtin.zeroCells z.cells (grownCap w (n + m) old E - (n + m))) E) →
        ∃ r' : Sl, Value.slice (some ⟨w.heap.size, 0, none⟩) (n + m) (grownCap w (n + m) old E) = r'.val (n + m) ∧ r'.Ok (n + m) size (cells ++ news) ∧ Inv w0 (own.set i (r'.ent E (cells ++ news))) w' := by
      intro old ho w' hw'
      subst hw'
      refine ⟨⟨some w.heap.size, grownCap w (n + m) old E, (Builtin.zeroCells z.cells (grownCap w (n + m) old E - (n + m))).toList⟩, rfl, ?_, ?_⟩
      · have hge := grownCap_ge w (n + m) old E
        refine ⟨hlen, hge, grownCap_le_maxLen w (n + m) old E hmax, (fun h => by cases h), fun _ _ => ?_⟩
        rw [hlen, Array.length_toList, size_zeroCells, hzs, ← Nat.add_mul]
        congr 1
        simp only
        omega
      · have hdh : w.drew.heap = w.heap := rfl
        refine hI.replace hi (fun k hk _ => ?_) (fun _ => ?_) (fun _ => .inr (Nat.le_refl _)) (by show _ ≤ (w.heap.push _).size; simp) rfl rfl rfl
        · show (w.drew.heap.push _)[k]? = _
          rw [hdh, Array.getElem?_push_lt hk, Array.getElem?_eq_getElem hk]
        · show (w.drew.heap.push _)[w.heap.size]? = _
          rw [hdh]
          simp only [Array.getElem?_push_size, Sl.ent, Option.isSome_some, cond_true]
          congr 2
          apply Array.ext'
          simp
    by_cases hroom : n + m ≤ r.cap
    · -- there is room
      have hcap : 0 < r.cap := by omega
      obtain ⟨g, hg⟩ : ∃ g, r.blk = some g := by
        cases hblk : r.blk with
        | none => have := hok.nil hblk; omega
        | some g => exact ⟨g, rfl⟩
      have hfull := hok.full g hg
      have hnm : (n + m) * size ≤ r.cap * size := Nat.mul_le_mul_right _ hroom
      have hpos1 : 0 < (cells ++ r.sp).length := by
        rw [List.length_append, hfull]; exact Nat.mul_pos hcap hpos
      have hent : r.ent E cells = (g, .cells ⟨cells ++ r.sp⟩ E (0, 0)) := by simp [Sl.ent, hg]
      rw [hent] at hi
      have hlive : live (g, .cells ⟨cells ++ r.sp⟩ E (0, 0)) = true := live_of_len hpos1
      have hcur := (hI.get hi hlive).2
      simp only at hcur
      have hfit : n * inf.size + news.length ≤ (cells ++ r.sp).toArray.size := by
        simp only [List.size_toArray, List.length_append, hs]; rw [hnl, hfull, ← Nat.add_mul]; exact hnm
      have hr := run_append_room (P := P) w t ty E inf hu hinf g n r.cap (cells ++ r.sp).toArray hcur ⟨b, off, none⟩ m c news (by rw [hs]; exact hnl) hnews' (fun u hu => isOne_one (List.all_eq_true.1 hn1 u hu)) hroom hfit
      refine ⟨⟨some g, r.cap, r.sp.drop news.length⟩, _, by rw [show r.val n = .slice (some ⟨g, 0, none⟩) n r.cap from by simp [Sl.val, Sl.addr, hg]]; exact hr, ⟨hlen, hroom, hok.max, (fun h => by cases h), fun _ _ => ?_⟩, ?_⟩
      · simp only [List.length_append, List.length_drop]
        have := hnl; rw [Nat.add_mul] at hnm; have := hok.len
        omega
      · have hrow : (List.take (n * inf.size) (cells ++ r.sp).toArray.toList ++ news ++ List.drop (n * inf.size + news.length) (cells ++ r.sp).toArray.toList).toArray = (⟨cells ++ news ++ r.sp.drop news.length⟩ : Array Value) := by
          simp only [hs, ← hok.len]
          rw [List.take_left, List.drop_append]
          simp
        rw [hrow]
        refine hI.replace hi (fun k _ hk => setRow_other w g k _ (hk hlive)) (fun _ => ?_) (fun _ => .inl ⟨hlive, by simp [Sl.ent]⟩) (by simp [World.setRow]) rfl rfl rfl
        have := setRow_heap w g (cells ++ r.sp).toArray ⟨cells ++ news ++ r.sp.drop news.length⟩ E (0, 0) hcur
        simpa [Sl.ent] using this
    · have hfits : Builtin.nextslicecap (n + m) r.cap * inf.bytes ≤ 281474976710656 := growslice_fits (by omega) (by rw [hb]; exact hby)
      obtain ⟨r', h1, h2, h3⟩ := grown r.cap (by omega) _ rfl
      refine ⟨r', _, ?_, h2, h3⟩
      rw [← h1]
      cases hblk : r.blk with
      | none =>
        have hc0 := hok.nil hblk
        have hn0 : n = 0 := by have := hok.cap; omega
        subst hn0
        have hc : cells = [] := List.eq_nil_of_length_eq_zero (by simpa using hok.len)
        subst hc
        have := run_append_nil (P := P) w t ty E inf z hu hinf hz ⟨b, off, none⟩ m c news (by rw [hs]; exact hnl) hnews' (by omega) (by omega) (by rw [hb]; simp only [Nat.zero_add] at hby; omega)
        rw [show r.val 0 = .slice none 0 0 from by simp [Sl.val, Sl.addr, hblk, hc0]]
        simp only [Nat.zero_add, hc0]
        rw [this]
        simp
      | some g =>
        have holds : ∀ j v, cells[j]? = some v → w.cell? ((⟨g, 0, none⟩ : Addr).add j) = some v := fun j v hj => by
          have hent : r.ent E cells = (g, .cells ⟨cells ++ r.sp⟩ E (0, 0)) := by simp [Sl.ent, hblk]
          rw [hent] at hi
          have hj' : (cells ++ r.sp)[j]? = some v := by rw [List.getElem?_append_left (List.getElem?_eq_some_iff.1 hj).1]; exact hj
          have hcur := (hI.get hi (live_of_get hj')).2
          simp only at hcur
          rw [addr_add]
          simp [World.cell?, hcur, hj']
        rw [show r.val n = .slice (some ⟨g, 0, none⟩) n r.cap from by simp [Sl.val, Sl.addr, hblk]]
        exact run_append_grow (P := P) w t ty E inf z hu hinf hz ⟨g, 0, none⟩ n r.cap cells (by rw [hs]; exact hok.len) holds ⟨b, off, none⟩ m c news (by rw [hs]; exact hnl) hnews' (by omega) (by omega) hfits

section
variable {C : Cx} {Q : Post} {env : Env} {own : Own} {D : List Deferred} {ops : Array Oper} {rest : List Oper}
variable {d : Nat} {ty : TypeId} {pos : String} {aft : Array Edge} {g : Option (Nat × Bool)} {x y : Operand} {T T' : TypeId}
/-- What is appended: nothing, or cells of which it is known where they lie. -/
def Src (w0 : World) (own : Own) (ao : Option Addr) (m : Nat) (news : List Value) : Prop := m = 0 ∨ ∃ b off, ao = some ⟨b, off, none⟩ ∧ Mem w0 own b off news
theorem SXL.append {n m c size bytes : Nat} {r : Sl} {E : TypeId} {cells news : List Value} {ao : Option Addr} (j : Nat) (hap : apP C.P T = some (E, size, bytes)) (hx : ev env x = some (r.val n)) (hi : own[j]? = some (r.ent E cells)) (hok : r.Ok n size cells)
    (hy : ev env y = some (.slice ao m c)) (hsrc : Src C.w0 own ao m news) (hnl : news.length = m * size) (hn1 : news.all isOne = true) (hmax : n + m ≤ maxLen ∧ (n + m) * bytes ≤ 140737488355328)
    (h : ∀ r' : Sl, r'.Ok (n + m) size (cells ++ news) → SXL C ops rest Q ⟨(d, r'.val (n + m)) :: env, own.set j (r'.ent E (cells ++ news)), D⟩)
    (hd : Nat.blt d C.n = true := by rfl) (hw : Wanted ops g env = some true := by rfl) (hdr : C.dr = false := by rfl) :
    SXL C ops ({ dst := some d, op := .call { callee := .builtin .append, args := ⟨[x, y]⟩, argTypes := ⟨[T, T]⟩ }, type := ty, pos, after := aft, guard := g } :: rest) Q ⟨env, own, D⟩ :=
  SXL.op hw (fun _ e => by cases e) (hdr := hdr) fun a w hc => by
    obtain ⟨r', w', hr, h1, h2⟩ := run_append_sl (P := C.P) (ty := ty) (c := c) (ao := ao) hc.2.2 hap hok hi (hsrc.imp id fun ⟨b, off, h1, h2⟩ => ⟨b, off, h1, fun j v hj => h2 w hc.2.2 j v hj⟩) hnl hn1 hmax.1 hmax.2
    refine ⟨_, w', .inl ?_, ⟨(d, r'.val (n + m)) :: env, own.set j (r'.ent E (cells ++ news)), D⟩, fun a' ha' hD' => ⟨ha'.put hd _, by rw [put_defers]; exact hD', h2⟩, h r' h1⟩
    simp only [execOp]
    simp [resolve, invoke, builtin, hc.1.eval hx, hc.1.eval hy, hr, Result.andThen]
/-- .. onto a slice without room, of which nothing was: a new entry. -/
theorem SXL.appendE {m c size bytes : Nat} (blk : Option Nat) {E : TypeId} {news : List Value} {ao : Option Addr} (hap : apP C.P T = some (E, size, bytes)) (hx : ev env x = some (.slice (Sl.addr ⟨blk, 0, []⟩) 0 0))
    (hy : ev env y = some (.slice ao m c)) (hsrc : Src C.w0 own ao m news) (hnl : news.length = m * size) (hn1 : news.all isOne = true) (hmax : m ≤ maxLen ∧ m * bytes ≤ 140737488355328)
    (h : ∀ r' : Sl, r'.Ok m size news → SXL C ops rest Q ⟨(d, r'.val m) :: env, own ++ [r'.ent E news], D⟩)
    (hd : Nat.blt d C.n = true := by rfl) (hw : Wanted ops g env = some true := by rfl) (hdr : C.dr = false := by rfl) :
    SXL C ops ({ dst := some d, op := .call { callee := .builtin .append, args := ⟨[x, y]⟩, argTypes := ⟨[T, T]⟩ }, type := ty, pos, after := aft, guard := g } :: rest) Q ⟨env, own, D⟩ :=
  SXL.op hw (fun _ e => by cases e) (hdr := hdr) fun a w hc => by
    have hlive : live (Sl.ent ⟨blk, 0, []⟩ E []) = false := by cases blk <;> rfl
    have hok : (Sl.mk blk 0 []).Ok 0 size [] := ⟨by simp, Nat.le_refl _, by simp, fun _ => rfl, fun _ _ => by simp⟩
    have hidx : (own ++ [Sl.ent ⟨blk, 0, []⟩ E []])[own.length]? = some (Sl.ent ⟨blk, 0, []⟩ E []) := by simp
    obtain ⟨r', w', hr, h1, h2⟩ := run_append_sl (P := C.P) (ty := ty) (c := c) (ao := ao) (hc.2.2.pad hlive) hap hok hidx (hsrc.imp id fun ⟨b, off, h1, h2⟩ => ⟨b, off, h1, fun j v hj => h2 w hc.2.2 j v hj⟩) hnl hn1 (by simpa using hmax.1) (by simpa using hmax.2)
    rw [List.nil_append, Nat.zero_add] at h1
    rw [Nat.zero_add] at hr
    rw [List.nil_append, List.set_append_right _ _ (Nat.le_refl _), Nat.sub_self, List.set_cons_zero] at h2
    refine ⟨_, w', .inl ?_, ⟨(d, r'.val m) :: env, own ++ [r'.ent E news], D⟩, fun a' ha' hD' => ⟨ha'.put hd _, by rw [put_defers]; exact hD', h2⟩, h r' h1⟩
    simp only [execOp]
    have hv : (Sl.mk blk 0 []).val 0 = .slice (Sl.addr ⟨blk, 0, []⟩) 0 0 := rfl
    rw [hv] at hr
    simp [resolve, invoke, builtin, hc.1.eval hx, hc.1.eval hy, hr, Result.andThen]
/-- An entry for a slice that is nil, or empty. -/
theorem SX.pad {c : Code} (p : Nat × Obj) (hp : live p = false) (h : SX C c Q ⟨env, own ++ [p], D⟩) : SX C c Q ⟨env, own, D⟩ :=
  fun a w hc => h a w ⟨hc.1, hc.2.1, hc.2.2.pad hp⟩
theorem SXL.pad {l : List Oper} (p : Nat × Obj) (hp : live p = false) (h : SXL C ops l Q ⟨env, own ++ [p], D⟩) (hdr : C.dr = false := by rfl) : SXL C ops l Q ⟨env, own, D⟩ :=
  SXL.ofn hdr fun a w hc => h.ton hdr a w ⟨hc.1, hc.2.1, hc.2.2.pad hp⟩

theorem takeAt_append {l l2 : List Value} : ∀ {k off : Nat} {vs : List Value}, takeAt l off k = some vs → takeAt (l ++ l2) off k = some vs
  | 0, _, _, h => h
  | k + 1, off, vs, h => by
    simp only [takeAt] at h ⊢
    split at h
    · rename_i v r hv hr
      rw [List.getElem?_append_left (List.getElem?_eq_some_iff.1 hv).1, hv, takeAt_append hr]
      exact h
    · cases h
/-- The elements of a slice of the call's own, in memory. -/
theorem Sl.mem {w0 : World} {r : Sl} {E : TypeId} {cells vs : List Value} {i n size off : Nat} (hok : r.Ok n size cells) (hi : own[i]? = some (r.ent E cells)) (hn : 0 < n) (hv : takeAt cells off size = some vs) :
    ∃ b, r.blk = some b ∧ Mem w0 own b off vs := by
  obtain ⟨b, hb⟩ := hok.some hn
  refine ⟨b, hb, ?_⟩
  have hent : r.ent E cells = (b, .cells ⟨cells ++ r.sp⟩ E (0, 0)) := by simp [Sl.ent, hb]
  rw [hent] at hi
  refine Mem.own (k := size) hi ?_
  exact takeAt_append hv
/-- .. as rows. -/
theorem flatten_at {k : Nat} : ∀ {rows : List (List Value)}, (∀ r ∈ rows, r.length = k) → ∀ {i : Nat} {r : List Value}, rows[i]? = some r → ∀ {j : Nat} {u : Value}, r[j]? = some u → rows.flatten[i * k + j]? = some u
  | [], _, i, r, hi, _, _, _ => by simp at hi
  | q :: rows, hk, 0, r, hi, j, u, hj => by
    simp at hi; subst hi
    rw [List.flatten_cons, Nat.zero_mul, Nat.zero_add, List.getElem?_append_left (List.getElem?_eq_some_iff.1 hj).1]
    exact hj
  | q :: rows, hk, i + 1, r, hi, j, u, hj => by
    have hq := hk q (by simp)
    have := flatten_at (k := k) (rows := rows) (fun r hr => hk r (by simp [hr])) (i := i) (by simpa using hi) hj
    rw [List.flatten_cons, List.getElem?_append_right (by rw [hq, Nat.add_mul]; omega), hq]
    rw [show (i + 1) * k + j - k = i * k + j by rw [Nat.add_mul]; omega]
    exact this
theorem length_flatten {k : Nat} : ∀ {rows : List (List Value)}, (∀ r ∈ rows, r.length = k) → rows.flatten.length = rows.length * k
  | [], _ => by simp
  | q :: rows, h => by
    rw [List.flatten_cons, List.length_append, length_flatten (fun r hr => h r (by simp [hr])), h q (by simp), List.length_cons, Nat.add_mul]
    omega
theorem flatten_inv {k : Nat} (hk : 0 < k) : ∀ {rows : List (List Value)}, (∀ r ∈ rows, r.length = k) → ∀ {j : Nat} {u : Value}, rows.flatten[j]? = some u → ∃ r, rows[j / k]? = some r ∧ r[j % k]? = some u
  | [], _, j, u, h => by simp at h
  | q :: rows, hr, j, u, h => by
    have hq := hr q (by simp)
    rw [List.flatten_cons] at h
    by_cases hj : j < k
    · rw [List.getElem?_append_left (by omega)] at h
      exact ⟨q, by rw [Nat.div_eq_of_lt hj]; rfl, by rw [Nat.mod_eq_of_lt hj]; exact h⟩
    · rw [List.getElem?_append_right (by omega), hq] at h
      obtain ⟨r, h1, h2⟩ := flatten_inv hk (rows := rows) (fun r h' => hr r (by simp [h'])) h
      have e1 : j / k = (j - k) / k + 1 := by rw [← Nat.sub_add_cancel (Nat.le_of_not_lt hj)]; simp [Nat.add_div_right _ hk]
      have e2 : j % k = (j - k) % k := by rw [Nat.mod_eq_sub_mod (Nat.le_of_not_lt hj)]
      exact ⟨r, by rw [e1]; simpa using h1, by rw [e2]; exact h2⟩
theorem Sl.rows {w0 w : World} (hI : Inv w0 own w) {r : Sl} {E : TypeId} {i n k : Nat} (hk0 : 0 < k) {rows : List (List Value)} (hok : r.Ok n k rows.flatten) (hi : own[i]? = some (r.ent E rows.flatten)) (hk : ∀ q ∈ rows, q.length = k) : RowsAt w r.addr k rows := by
  cases hb : r.blk with
  | none =>
    have h1 := hok.nil hb
    have h2 := hok.cap
    have h3 := hok.len
    rw [length_flatten hk] at h3
    have hn : n = 0 := by omega
    subst hn
    have : rows.length = 0 := by
      rw [Nat.zero_mul] at h3
      exact (Nat.mul_eq_zero.1 h3).resolve_right (by omega)
    exact .inl (List.eq_nil_of_length_eq_zero this)
  | some b =>
    have hent : r.ent E rows.flatten = (b, .cells ⟨rows.flatten ++ r.sp⟩ E (0, 0)) := by simp [Sl.ent, hb]
    rw [hent] at hi
    have := RowsAt.ofOwn (rows := rows) hI hi (k := k) fun i q hq j u hj => by
      have := flatten_at hk hq hj
      rw [List.getElem?_append_left (List.getElem?_eq_some_iff.1 this).1]; exact this
    simpa [Sl.addr, hb] using this
/-- All the elements of a slice, to append. -/
theorem RowsAt.src {w0 : World} {ao : Option Addr} {k : Nat} {rows : List (List Value)} (h : RowsAt w0 ao k rows) (hk0 : 0 < k) (hk : ∀ q ∈ rows, q.length = k) (own : Own) : Src w0 own ao rows.length rows.flatten := by
  rcases h with rfl | ⟨b, o, h1, h2⟩
  · exact .inl rfl
  · refine .inr ⟨b, o, h1, Mem.out fun j v hj => ?_⟩
    obtain ⟨r, h3, h4⟩ := flatten_inv hk0 hk hj
    have := h2 _ _ h3 _ _ h4
    rwa [Nat.add_assoc, Nat.mul_comm, Nat.div_add_mod] at this
end
end Go.X
namespace Go.X
open Go Go.RowKit
/-- Only some blocks are handed back. -/
theorem retQ.sel {C : Cx} {rs : List ResultVar} {R : Value → Own → Prop} {env : Env} {own o : Own} (is : List Nat) (hs : selI own is = some o) (hd : distinct is = true) (h : retQ C rs (fun v _ => R v o) .ret ⟨env, own, []⟩) : retQ C rs R .ret ⟨env, own, []⟩ := by
  obtain ⟨own0, h1, vs, h2, own', h3, h4⟩ := h
  cases h1
  exact ⟨own, .nil _, vs, h2, o, fun w0 w hI => hI.sel hs hd, h4⟩
/-- Nothing is handed back but entries that stand for no block. -/
theorem retQ.dead {C : Cx} {rs : List ResultVar} {R : Value → Own → Prop} {s : St} (l : Own) (hl : l.all (fun p => !live p) = true) (h : retQ C rs (fun v _ => R v l) .ret s) : retQ C rs R .ret s := by
  obtain ⟨own0, h1, vs, h2, own', h3, h4⟩ := h
  refine ⟨own0, h1, vs, h2, l, fun w0 w hI => ?_, h4⟩
  have hd : ∀ p ∈ l, live p = false := fun p hp => by simpa using List.all_eq_true.1 hl p hp
  refine ⟨(h3 w0 w hI).below, fun p hp hlp => absurd hlp (by rw [hd p hp]; exact Bool.false_ne_true), ?_⟩
  rw [List.filter_eq_nil_iff.2 fun p hp => by rw [hd p hp]; exact Bool.false_ne_true]
  exact List.nodup_nil
theorem ints_snoc (l : List Int) (x : Int) : ints (l ++ [x]) = ints l ++ [.int .i64 x] := by simp [ints]
theorem all_isOne_ints (l : List Int) : (ints l).all isOne = true := ints_isOne l
/-- A list of numbers, handed back. -/
structure IsInts (E : TypeId) (l : List Int) (v : Value) (p : Nat × Obj) : Prop where
  ex : ∃ r : Sl, r.Ok l.length 1 (ints l) ∧ v = r.val l.length ∧ p = r.ent E (ints l)
/-- Rows of k cells, handed back. -/
structure IsRows (E : TypeId) (k : Nat) (rows : List (List Value)) (v : Value) (p : Nat × Obj) : Prop where
  ex : ∃ r : Sl, r.Ok rows.length k rows.flatten ∧ v = r.val rows.length ∧ p = r.ent E rows.flatten
end Go.X
namespace Go.X
open Go Go.RowKit
theorem bld_one {zs vs : List Value} {v : Value} {sz : Nat} (hv : cellsO v = some vs) (hn : vs.length = sz) : bld (fun i => some (i * sz, sz)) (rowOf zs (1 * sz)) [(0, v)] = some vs := by
  have h1 : putAt (rowOf zs (1 * sz)) 0 vs = some vs := putAt_all _ _ (by simp [rowOf, hn])
  rw [Nat.one_mul] at h1
  simp [bld, hv, hn, h1]
end Go.X
