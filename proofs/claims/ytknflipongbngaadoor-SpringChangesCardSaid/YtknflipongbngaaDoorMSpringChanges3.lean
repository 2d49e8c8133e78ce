/- SpringChanges: whatever the input, the law returns true and the input reads as it did. Its condition: the package's variables are as the program's text lays them (the card ties them). -/
import Derived.Test.YtknflipongbngaaDoorMSpringChanges2
import Derived.Lib.Overlaps
import Derived.Lib.AppendZeros
import Derived.SevenTiedAt
/- The examples: what is told of them. -/
namespace Go.Proofs.YtknflipongbngaaDoor
open Go.X Go.S Go.RowKit
/-- The spring of the examples, with readings more. -/
def fntM (more : List Rd) : Sp := ⟨4, 40, 8, 60, 70, 3, 5, [⟨0, 3, 2, 5, 12⟩, ⟨4, 9, 2, 10, 25⟩], ⟨1, 0, 10, 18, 20⟩ :: more⟩
def fnt : Sp := fntM []
def oddR : Rd := ⟨3, 1, 10, 9, 10⟩
def oddS : Sp := fntM [oddR]
end Go.Proofs.YtknflipongbngaaDoor

/- The examples: the walk. -/
namespace Go.Proofs.YtknflipongbngaaDoor
open Go.X Go.S Go.RowKit
end Go.Proofs.YtknflipongbngaaDoor

/- What is told, from week to week. Nothing of Go stands here. -/
namespace Go.S
open Go.X (G idxF idxF_some idxF_none)
end Go.S

/- SpringWeeks: the walk. -/
namespace Go.Proofs.YtknflipongbngaaDoor
open Go.X Go.S Go.RowKit
end Go.Proofs.YtknflipongbngaaDoor

/- How long a bucket takes. Nothing of Go stands here. -/
namespace Go.S
open Go.X (G)
variable {s : Sp} {k : Nat} {a : Int}
/-! ### the week that tells most -/
end Go.S

/- Fewer truths: what is told is within what was told. Nothing of Go stands here. -/
namespace Go.S
open Go.X (G)
def allTo (s : Sp) : Nat → Int
  | 0 => 0
  | k + 1 => allTo s k + (givesHi s k - givesLo s k)
end Go.S

/- The calculus' rules: conversions between integers, shifts, bits. Nothing of the program stands here. -/
namespace Go.X
open Go Go.RowKit
def cvP (P : Program) (src dst : TypeId) (k : IntKind) : Bool := match P.underlying src, P.underlying dst with | some _, some (.int j) => decide (j = k) | _, _ => false
theorem run_cv {P : Program} {w : World} {src dst : TypeId} {k k2 : IntKind} {n : Int} (h : cvP P src dst k2 = true) : (convert src dst (.int k n)).run P w = .ok (.int k2 (k2.wrap n)) w := by
  unfold cvP at h
  split at h
  · rename_i u j h1 h2
    obtain rfl := of_decide_eq_true h
    simp [convert, run_underlying h1, run_underlying h2, Conv.intToInt]
  · cases h
section
variable {C : Cx} {Q : Post} {env : Env} {own : Own} {D : List Deferred} {ops : Array Oper} {rest : List Oper}
variable {d : Nat} {ty : TypeId} {pos : String} {aft : Array Edge} {g : Option (Nat × Bool)} {x y : Operand} {T T' : TypeId} {A B : Int} {k : IntKind}
theorem SXL.cv (hT : cvP C.P T T' .i64 = true) (hx : ev env x = some (.int k A)) (hb : -9223372036854775808 ≤ A ∧ A ≤ 9223372036854775807)
    (h : SXL C ops rest Q ⟨(d, .int .i64 A) :: env, own, D⟩) (hd : Nat.blt d C.n = true := by rfl) (hw : Wanted ops g env = some true := by rfl) :
    SXL C ops ({ dst := some d, op := .convert T T' x, type := ty, pos, after := aft, guard := g } :: rest) Q ⟨env, own, D⟩ :=
  SXL.val rfl hd hw (fun _ e => by cases e) (fun a w ha _ => by
    simp only [execOp, ha.eval hx]
    exact run_val (by rw [run_cv hT, IntWalk.i64_in _ hb])) h
theorem SXL.shr {j : IntKind} (hx : ev env x = some (.int k A)) (hy : ev env y = some (.int j B)) (hb : 0 ≤ B)
    (h : SXL C ops rest Q ⟨(d, .int k (A.fdiv (2 ^ (Min.min B.toNat k.bits)))) :: env, own, D⟩) (hd : Nat.blt d C.n = true := by rfl) (hw : Wanted ops g env = some true := by rfl) :
    SXL C ops ({ dst := some d, op := .binOp .shr T x y T', type := ty, pos, after := aft, guard := g } :: rest) Q ⟨env, own, D⟩ :=
  SXL.bin hx hy (r := .int k (A.fdiv (2 ^ (Min.min B.toNat k.bits)))) (fun w => by
    show (Op.shift .shr k A j B).run C.P w = _
    unfold Op.shift
    rw [if_neg (by omega)]; rfl) hd hw h
theorem SXL.and (hx : ev env x = some (.int k A)) (hy : ev env y = some (.int k B))
    (h : SXL C ops rest Q ⟨(d, .int k (k.wrap ((BitVec.ofInt k.bits A &&& BitVec.ofInt k.bits B).toNat))) :: env, own, D⟩) (hd : Nat.blt d C.n = true := by rfl) (hw : Wanted ops g env = some true := by rfl) :
    SXL C ops ({ dst := some d, op := .binOp .and T x y T', type := ty, pos, after := aft, guard := g } :: rest) Q ⟨env, own, D⟩ :=
  SXL.bin hx hy (r := .int k (k.wrap ((BitVec.ofInt k.bits A &&& BitVec.ofInt k.bits B).toNat))) (fun w => by
    have e : (do eqGuard .and T x y (.int k A) (.int k B); binOp .and T (.int k A) (.int k B) : Sem Value) = Op.intBits .and k A B := by
      simp [eqGuard, binOp]
    rw [e]; rfl) hd hw h
end
end Go.X

/- SpringFill, SpringLook: the walks. -/
namespace Go.Proofs.YtknflipongbngaaDoor
open Go.X Go.S Go.RowKit
end Go.Proofs.YtknflipongbngaaDoor

/- The fewest false readings: what is told is the first of the fewest. Nothing of Go stands here. -/
namespace Go.S
open Go.X (G)
/-- One list is before another of its length. -/
def lexB : List Int → List Int → Prop
  | x :: xs, y :: ys => x < y ∨ (x = y ∧ lexB xs ys)
  | _, _ => False
def befP (a b : List Int) : Prop := if a.length ≠ b.length then a.length < b.length else lexB a b
/-- Numbers of readings that stand behind the first i. -/
def Ch (s : Sp) (i m : Nat) (c : List Int) : Prop := c.length = m ∧ c.Sublist ((numsL s).drop i)
end Go.S

/- SpringWrong: the walk. -/
namespace Go.Proofs.YtknflipongbngaaDoor
open Go.X Go.S Go.RowKit
noncomputable instance (a b : List Int) : Decidable (befP a b) := Classical.propDecidable _
/-- The reading's bit stands. -/
abbrev bitOn (bits : Int) (k : Nat) : Prop := IntKind.u16.wrap ((BitVec.ofInt IntKind.u16.bits (bits.fdiv (2 ^ (Min.min (k : Int).toNat IntKind.u16.bits))) &&& BitVec.ofInt IntKind.u16.bits 1).toNat) = 1
def bitL (s : Sp) (bits : Int) : Nat → List Int
  | 0 => []
  | k + 1 => if bitOn bits k then bitL s bits k ++ [(s.reads.getD k default).num] else bitL s bits k
theorem wo_len (s : Sp) (l : List Int) : (wo s l).reads.length ≤ s.reads.length := keepR_len s.reads l
end Go.Proofs.YtknflipongbngaaDoor

/- The helpers of the outright laws: the walks. -/
namespace Go.Proofs.YtknflipongbngaaDoor
open Go.X Go.S Go.RowKit
def BedOk (s : Sp) (rain : Int) (week : Nat) (before lo hi : Int) : Prop := ((0 ≤ lo ∧ before - s.fall ≤ lo) ∧ hi ≤ s.most ∧ hi ≤ before) ∧ (∀ x ∈ s.book, x.wk = week → Wi rain x.r0 x.r1 → x.g0 ≤ lo ∧ hi ≤ x.g1) ∧ OkP s week lo ∧ OkP s week hi
structure BedR (s : Sp) (rain : Int) (week : Nat) (before : Int) (v : Value) (own : X.Own) : Prop where
  ex : ∃ lo hi : Int, v = .tuple ⟨[.int .i64 lo, .int .i64 hi]⟩ ∧ own = [] ∧ (lo ≤ hi → BedOk s rain week before lo hi)
end Go.Proofs.YtknflipongbngaaDoor

/- Truths by numbers. Nothing of Go stands here. -/
namespace Go.S
open Go.X (G)
/-- A truth of the first weeks. -/
def TruthTo (s : Sp) (rain : Int) (l : List Int) (k : Nat) : Prop := ∀ w, w < k →
  ((0 ≤ l.getD w 0 ∧ l.getD w 0 ≤ s.most) ∧ OkP s w (l.getD w 0)) ∧ (∀ x ∈ s.book, x.wk = w → Wi rain x.r0 x.r1 → Wi (l.getD w 0) x.g0 x.g1) ∧ (0 < w → l.getD (w - 1) 0 - s.fall ≤ l.getD w 0 ∧ l.getD w 0 ≤ l.getD (w - 1) 0)
theorem TruthTo.truth {s : Sp} {rain : Int} {l : List Int} (h : TruthTo s rain l s.weeks.toNat) : Truth s rain (fun w => l.getD w 0) := h
end Go.S

/- A truth by numbers: the walk. -/
namespace Go.Proofs.YtknflipongbngaaDoor
open Go.X Go.S Go.RowKit
structure FlowR (s : Sp) (v : Value) (own : X.Own) : Prop where
  ex : ∃ (rain : Int) (q : Sl) (l : List Int) (p : Prop) (_ : Decidable p), q.Ok l.length 1 (ints l) ∧ v = .tuple ⟨[.int .i64 rain, q.val l.length, .bool (decide p)]⟩ ∧ own = [q.ent 3 (ints l)] ∧ (p → Wi rain s.w0 s.w1 ∧ l.length = s.weeks.toNat ∧ TruthTo s rain l s.weeks.toNat)
end Go.Proofs.YtknflipongbngaaDoor

/- What a truth gives in all weeks; how long a bucket takes in it. Nothing of Go stands here. -/
namespace Go.S
open Go.X (G)
end Go.S

/- SpringTruth: the walk. -/
namespace Go.Proofs.YtknflipongbngaaDoor
open Go.X Go.S Go.RowKit
end Go.Proofs.YtknflipongbngaaDoor

/- The calculus' rules: calls that turn blocks of the caller's own; copy; append of zeros; overlaps. Nothing of the program stands here. -/
namespace Go.X
open Go Go.RowKit

section
variable {C : Cx} {Q : Post} {env : Env} {own : Own} {D : List Deferred} {ops : Array Oper} {rest : List Oper}
variable {d : Nat} {ty : TypeId} {pos : String} {aft : Array Edge} {g : Option (Nat × Bool)} {x y : Operand} {T T' : TypeId}
/-- A call that may turn blocks of the caller's own: of them some are looked at; behind it others stand. -/
theorem SXL.callOfM {o : Oper} {f : FuncId} {args : List Value} {own1 : Own} {R : Value → Own → Prop} (is : List Nat) (hs : selI own is = some own1) (hds : distinct is = true) (ho : o.dst = some d) (hd : Nat.blt d C.n = true) (hw : Wanted ops o.guard env = some true) (hnd : ∀ c, o.op ≠ .defer c)
    (hv : ∀ a w, Agree C.n env a → Inv C.w0 own w → (execOp a.eval o).run C.P w = .ok (.enter f ⟨args⟩) w)
    (hc : ∀ w, Inv C.w0 own1 w → Calls C.P f ⟨args⟩ w fun e w' => ∃ v own', e = .returned v ∧ Inv C.w0 own' w' ∧ R v own')
    (h : ∀ v own', R v own' → SXL C ops rest Q ⟨(d, v) :: env, own', D⟩) (hdr : C.dr = false := by rfl) : SXL C ops (o :: rest) Q ⟨env, own, D⟩ := by
  refine SXL.ofn hdr ?_
  intro a w hcn
  have hw' := hcn.1.wanted hw
  simp only [wpListIn, hw', if_true]
  refine ⟨about_true rfl, ?_⟩
  rw [Oper.semAt_eq _ _ _ hnd, hv a w hcn.1 hcn.2.2]
  refine ⟨fun hx => (by cases hx), callsIn_FW (Calls.mono (hc w (hcn.2.2.sel hs hds)) ?_)⟩
  rintro e w' ⟨v, own', rfl, hI', hR⟩
  exact (h v own' hR).ton hdr _ _ (by rw [ho]; exact ⟨hcn.1.put hd v, by rw [put_defers]; exact hcn.2.1, hI'⟩)
theorem SXL.callM {f : FuncId} {xs : List Operand} {ats : Array TypeId} {args : List Value} {own1 : Own} (R : Value → Own → Prop) (is : List Nat) (hs : selI own is = some own1) (hf : fnOk C.P f = true) (hx : evl env xs = some args)
    (hc : ∀ w, Inv C.w0 own1 w → Calls C.P f ⟨args⟩ w fun e w' => ∃ v own', e = .returned v ∧ Inv C.w0 own' w' ∧ R v own')
    (h : ∀ v own', R v own' → SXL C ops rest Q ⟨(d, v) :: env, own', D⟩) (hds : distinct is = true := by rfl) (hd : Nat.blt d C.n = true := by rfl) (hw : Wanted ops g env = some true := by rfl) (hdr : C.dr = false := by rfl) :
    SXL C ops ({ dst := some d, op := .call { callee := .value (.func f), args := ⟨xs⟩, argTypes := ats }, type := ty, pos, after := aft, guard := g } :: rest) Q ⟨env, own, D⟩ :=
  SXL.callOfM is hs hds rfl hd hw (fun _ e => by cases e) (fun a w ha hI => by
    rw [execOp_call_go]
    have := evl_map ha hx
    simp only [List.map_toArray, this]
    simpa using run_callFunc hf) hc h hdr
end
/-- Some cells of a row set anew. -/
def putL (l : List Value) (off : Nat) (vs : List Value) : List Value := l.take off ++ vs ++ l.drop (off + vs.length)
theorem run_copy_row' {P : Program} {w : World} {dT sT ty E elem : TypeId} {b off n dLen dCap sLen sCap size : Nat} {l news : List Value} {a : Addr} (hu : P.underlying dT = some (.slice elem)) (hz : (sizeOf elem).run P w = .ok size w)
    (hk : Nat.min sLen dLen = n) (hn : news.length = n * size) (hsrc : ∀ j v, news[j]? = some v → w.cell? (a.add j) = some v)
    (hb : w.heap[b]? = some (.cells ⟨l⟩ E (0, 0))) (hfit : off + news.length ≤ l.length) (h1 : ∀ v ∈ news, v.oneCell' = true) :
    (Builtin.copy_ #[dT, sT] ty #[.slice (some ⟨b, off, none⟩) dLen dCap, .slice (some a) sLen sCap]).run P w = .ok (goInt n) (w.setRow b (⟨putL l off news⟩ : Array Value)) := by
  have hf := run_firstCells_some (P := P) w size n a sLen sCap news hn hsrc
  have hst := run_storeCells_at P b off E news 0 ⟨l⟩ w hb (by simpa using hfit) h1
  simp only [Nat.add_zero] at hst
  simp [Builtin.copy_, run_underlying hu, Builtin.lenOf, hz, hk, hf, hst, putL]
section
variable {C : Cx} {Q : Post} {env : Env} {own : Own} {D : List Deferred} {ops : Array Oper} {rest : List Oper}
variable {d : Nat} {ty : TypeId} {pos : String} {aft : Array Edge} {g : Option (Nat × Bool)} {x y : Operand} {T T' : TypeId}
/-- copy into a block of the call's own. -/
theorem SXL.copyO (i : Nat) {b off n dLen dCap sLen sCap size : Nat} {E : TypeId} {l news : List Value} {ao : Option Addr} (he : elemP C.P T = some (none, size)) (hx : ev env x = some (.slice (some ⟨b, off, none⟩) dLen dCap)) (hy : ev env y = some (.slice ao sLen sCap))
    (hi : own[i]? = some (b, .cells ⟨l⟩ E (0, 0))) (hlive : 0 < l.length) (hk : Nat.min sLen dLen = n) (hn : news.length = n * size) (hsrc : ∃ b' o', ao = some ⟨b', o', none⟩ ∧ Mem C.w0 own b' o' news) (hfit : off + news.length ≤ l.length) (h1 : news.all isOne = true)
    (h : SXL C ops rest Q ⟨(d, .int .i64 (n : Int)) :: env, own.set i (b, .cells ⟨putL l off news⟩ E (0, 0)), D⟩)
    (hd : Nat.blt d C.n = true := by rfl) (hw : Wanted ops g env = some true := by rfl) (hdr : C.dr = false := by rfl) :
    SXL C ops ({ dst := some d, op := .call { callee := .builtin .copy, args := ⟨[x, y]⟩, argTypes := ⟨[T, T']⟩ }, type := ty, pos, after := aft, guard := g } :: rest) Q ⟨env, own, D⟩ :=
  SXL.op hw (fun _ e => by cases e) (hdr := hdr) fun a w hc => by
    have hl := live_of_len (b := b) (E := E) (fz := (0, 0)) hlive
    obtain ⟨b', o', rfl, hm⟩ := hsrc
    have hcur := (hc.2.2.get hi hl).2
    simp only at hcur
    obtain ⟨elem, hu, hz⟩ : ∃ elem, C.P.underlying T = some (.slice elem) ∧ ∀ w, (sizeOf elem).run C.P w = .ok size w := by
      unfold elemP at he
      split at he
      · rename_i e hu
        cases hs : sizeP C.P e with
        | none => simp [hs] at he
        | some s => simp [hs] at he; subst he; exact ⟨e, hu, fun w => run_sizeOf hs⟩
      · rename_i n' e hu; cases hs : sizeP C.P e <;> simp [hs] at he
      · cases he
    have hr := run_copy_row' (P := C.P) (w := w) (sT := T') (ty := ty) (dCap := dCap) (sCap := sCap) (a := ⟨b', o', none⟩) hu (hz w) hk hn (fun j v hj => by rw [addr_add]; exact hm w hc.2.2 j v hj) hcur hfit (fun v hv => isOne_one (List.all_eq_true.1 h1 v hv))
    refine ⟨.int .i64 (n : Int), w.setRow b (⟨putL l off news⟩ : Array Value), .inl ?_, ⟨(d, .int .i64 (n : Int)) :: env, own.set i (b, .cells ⟨putL l off news⟩ E (0, 0)), D⟩, fun a' ha' hD' => ⟨ha'.put hd _, by rw [put_defers]; exact hD', ?_⟩, h⟩
    · simp only [execOp]
      simp [resolve, invoke, builtin, hc.1.eval hx, hc.1.eval hy, hr, Result.andThen, goInt]
    · exact hc.2.2.set hi hl (fun k hk => setRow_other w b k _ hk) (setRow_heap w b _ _ E (0, 0) hcur) (by simp [World.setRow]) rfl rfl rfl
/-- .. of which what comes of it has a name. -/
theorem SXL.copyE (i : Nat) {b off n dLen dCap sLen sCap size : Nat} {E : TypeId} {l news l' : List Value} {ao : Option Addr} (he : elemP C.P T = some (none, size)) (hx : ev env x = some (.slice (some ⟨b, off, none⟩) dLen dCap)) (hy : ev env y = some (.slice ao sLen sCap))
    (hi : own[i]? = some (b, .cells ⟨l⟩ E (0, 0))) (hlive : 0 < l.length) (hk : Nat.min sLen dLen = n) (hn : news.length = n * size) (hsrc : ∃ b' o', ao = some ⟨b', o', none⟩ ∧ Mem C.w0 own b' o' news) (hfit : off + news.length ≤ l.length) (h1 : news.all isOne = true) (hl : putL l off news = l')
    (h : SXL C ops rest Q ⟨(d, .int .i64 (n : Int)) :: env, own.set i (b, .cells ⟨l'⟩ E (0, 0)), D⟩)
    (hd : Nat.blt d C.n = true := by rfl) (hw : Wanted ops g env = some true := by rfl) (hdr : C.dr = false := by rfl) :
    SXL C ops ({ dst := some d, op := .call { callee := .builtin .copy, args := ⟨[x, y]⟩, argTypes := ⟨[T, T']⟩ }, type := ty, pos, after := aft, guard := g } :: rest) Q ⟨env, own, D⟩ := by
  subst hl; exact SXL.copyO i he hx hy hi hlive hk hn hsrc hfit h1 h hd hw hdr
theorem SXL.subE {A B R : Int} (hx : ev env x = some (.int .i64 A)) (hy : ev env y = some (.int .i64 B)) (hb : -9223372036854775808 ≤ A - B ∧ A - B ≤ 9223372036854775807) (hR : A - B = R)
    (h : SXL C ops rest Q ⟨(d, .int .i64 R) :: env, own, D⟩) (hd : Nat.blt d C.n = true := by rfl) (hw : Wanted ops g env = some true := by rfl) :
    SXL C ops ({ dst := some d, op := .binOp .sub T x y T', type := ty, pos, after := aft, guard := g } :: rest) Q ⟨env, own, D⟩ := by
  subst hR; exact SXL.sub hx hy hb h hd hw
theorem cut_own {b o l c s : Nat} (h : l < c ∨ l = 0) : cutAddr (some ⟨b, o, none⟩) l c s = some ⟨b, o + l * s, none⟩ := by
  unfold cutAddr
  split
  · rcases h with h | h
    · omega
    · subst h; simp
  · simp [Addr.add_lit]
/-- Parts of a slice that lies at a known place. -/
theorem SXL.sliceLo {z : Operand} {b off n c s k : Nat} {ki : IntKind} {A : Int} (he : elemP C.P T = some (none, s)) (hx : ev env x = some (.slice (some ⟨b, off, none⟩) n c)) (hy : ev env z = some (.int ki A)) (hA : A = (k : Int)) (hb : k ≤ n ∧ (k < c ∨ k = 0))
    (h : SXL C ops rest Q ⟨(d, .slice (some ⟨b, off + k * s, none⟩) (n - k) (c - k)) :: env, own, D⟩) (hd : Nat.blt d C.n = true := by rfl) (hw : Wanted ops g env = some true := by rfl) :
    SXL C ops ({ dst := some d, op := .slice T x (some z) none none, type := ty, pos, after := aft, guard := g } :: rest) Q ⟨env, own, D⟩ := by
  subst hA
  refine SXL.sliceL he hx hy (by omega) ?_ hd hw
  rw [Int.toNat_natCast, cut_own hb.2]; exact h
theorem SXL.sliceHo {z : Operand} {b off n c s k : Nat} {ki : IntKind} {B : Int} (he : elemP C.P T = some (none, s)) (hx : ev env x = some (.slice (some ⟨b, off, none⟩) n c)) (hz : ev env z = some (.int ki B)) (hB : B = (k : Int)) (hb : k ≤ c)
    (h : SXL C ops rest Q ⟨(d, .slice (some ⟨b, off, none⟩) k c) :: env, own, D⟩) (hd : Nat.blt d C.n = true := by rfl) (hw : Wanted ops g env = some true := by rfl) :
    SXL C ops ({ dst := some d, op := .slice T x none (some z) none, type := ty, pos, after := aft, guard := g } :: rest) Q ⟨env, own, D⟩ := by
  subst hB
  refine SXL.sliceH he hx hz (by omega) ?_ hd hw
  rw [Int.toNat_natCast, cut_own (.inr rfl), Nat.zero_mul, Nat.add_zero]; exact h
/-- Some blocks, in another order. -/
theorem SXL.selO {l : List Oper} {own' : Own} (is : List Nat) (hs : selI own is = some own') (h : SXL C ops l Q ⟨env, own', D⟩) (hd : distinct is = true := by rfl) : SXL C ops l Q ⟨env, own, D⟩ :=
  SXL.le (s' := ⟨env, own', D⟩) ⟨EnvSub.refl _, Sel.of is hs hd, rfl⟩ h
/-- The blocks in other words. -/
theorem SX.own_eq {c : Code} {own' : Own} (e : own = own') (h : SX C c Q ⟨env, own', D⟩) : SX C c Q ⟨env, own, D⟩ := e ▸ h
theorem SX.selO {c : Code} {own' : Own} (is : List Nat) (hs : selI own is = some own') (h : SX C c Q ⟨env, own', D⟩) (hd : distinct is = true := by rfl) : SX C c Q ⟨env, own, D⟩ :=
  SX.le (s' := ⟨env, own', D⟩) ⟨EnvSub.refl _, Sel.of is hs hd, rfl⟩ h
/-! ### append of zeros that grows -/
def isI64P (P : Program) (t : TypeId) : Bool := match P.underlying t with | some (.int .i64) => true | _ => false
theorem run_append_zeros {P : Program} (w : World) (t tn ty e : TypeId) (i : TypeInfo) (z : Value) (ht : P.underlying t = some (.slice e)) (htn : P.underlying tn = some (.int .i64)) (hi : P.info? e = some i) (hz : i.zero = some z)
    (b : Addr) (n c : Nat) (olds : List Value) (hlo : olds.length = n * i.size) (holds : ∀ j v, olds[j]? = some v → w.cell? (b.add j) = some v)
    (m : Nat) (h0 : 0 < m) (hs : 0 < i.size) (hg : c < n + m) (h63 : ((n + m : Nat) : Int) ≤ 9223372036854775807) (hfit : Builtin.nextslicecap (n + m) c * i.bytes ≤ 281474976710656) (h48 : m * i.bytes ≤ 281474976710656) :
    (Builtin.append_ #[t, tn] ty #[.slice (some b) n c, .int .i64 (m : Int)]).run P w =
      .ok (.slice (some ⟨w.heap.size, 0, none⟩) (n + m) (grownCap w (n + m) c e)) (w.drew.alloc (.cells (olds.toArray ++ Builtin.zeroCells z.cells m ++ Builtin.zeroCells z.cells (grownCap w (n + m) c e - (n + m))) e)) := by
  have hn : ¬ (n + m ≤ c) := by omega
  have hw : IntKind.i64.wrap (m : Int) = m := by rw [IntKind.wrap_i64]; omega
  have h63' : ¬ (9223372036854775807 < ((n : Int) + (m : Int))) := by omega
  have h48' : ¬ (281474976710656 < Builtin.nextslicecap (n + m) c * i.bytes) := by omega
  have h48i : ¬ (281474976710656 < (m : Int) * (i.bytes : Int)) := by
    rw [← Int.natCast_mul]
    omega
  have hneg : ¬ ((m : Int) < 0) := by omega
  have hns : ¬ (m * i.size = 0) := Nat.mul_ne_zero (by omega) (by omega)
  have hfo := run_firstCells_some (P := P) w.drew i.size n b n c olds hlo (by simpa using holds)
  simp [Builtin.append_, run_underlying ht, run_underlying htn, sizeOf, typeInfo, zeroValue, hi, hz, asInt, asIntOf, hw, hn, hneg, hns, h63', h48', h48i, Question.forced, hfo, newRow, grownCap]
theorem isI64P_spec {P : Program} {t : TypeId} (h : isI64P P t = true) : P.underlying t = some (.int .i64) := by
  unfold isI64P at h
  split at h
  · assumption
  · cases h
theorem SXL.appendZ {n m c size bytes : Nat} {E : TypeId} {olds : List Value} {ao : Option Addr} (hap : apP C.P T = some (E, size, bytes)) (hint : isI64P C.P T' = true) (hx : ev env x = some (.slice ao n c)) (hy : ev env y = some (.int .i64 (m : Int)))
    (hsrc : ∃ b off, ao = some ⟨b, off, none⟩ ∧ Mem C.w0 own b off olds) (hol : olds.length = n * size) (hm0 : 0 < m) (hgrow : c < n + m) (hmax : n + m ≤ maxLen ∧ (n + m) * bytes ≤ 140737488355328)
    (h : ∀ b c' zs, n + m ≤ c' → c' ≤ maxLen → (olds ++ zs).length = c' * size → SXL C ops rest Q ⟨(d, .slice (some ⟨b, 0, none⟩) (n + m) c') :: env, own ++ [(b, .cells ⟨olds ++ zs⟩ E (0, 0))], D⟩)
    (hd : Nat.blt d C.n = true := by rfl) (hw : Wanted ops g env = some true := by rfl) (hdr : C.dr = false := by rfl) :
    SXL C ops ({ dst := some d, op := .call { callee := .builtin .append, args := ⟨[x, y]⟩, argTypes := ⟨[T, T']⟩ }, type := ty, pos, after := aft, guard := g } :: rest) Q ⟨env, own, D⟩ :=
  SXL.op hw (fun _ e => by cases e) (hdr := hdr) fun a w hc => by
    obtain ⟨inf, z, hu, hinf, hz, hs, hb, hzs, hpos⟩ := apP_spec hap
    obtain ⟨b, off, rfl, hm⟩ := hsrc
    have hm63 : n + m ≤ 9223372036854775807 := by have := hmax.1; simp only [maxLen] at this; omega
    have h48 : m * inf.bytes ≤ 281474976710656 := by
      have : m * bytes ≤ (n + m) * bytes := Nat.mul_le_mul_right _ (by omega)
      rw [hb]; omega
    have hr := run_append_zeros (P := C.P) w T T' ty E inf z hu (isI64P_spec hint) hinf hz ⟨b, off, none⟩ n c olds (by rw [hs]; exact hol) (fun j v hj => by rw [addr_add]; exact hm w hc.2.2 j v hj) m hm0 (by rw [hs]; exact hpos) hgrow (by omega) (growslice_fits (by omega) (by rw [hb]; exact hmax.2)) h48
    have hge := grownCap_ge w (n + m) c E
    refine ⟨.slice (some ⟨w.heap.size, 0, none⟩) (n + m) (grownCap w (n + m) c E), w.drew.alloc (.cells (olds.toArray ++ Builtin.zeroCells z.cells m ++ Builtin.zeroCells z.cells (grownCap w (n + m) c E - (n + m))) E), .inl ?_, ⟨(d, .slice (some ⟨w.heap.size, 0, none⟩) (n + m) (grownCap w (n + m) c E)) :: env, own ++ [(w.heap.size, .cells ⟨olds ++ ((Builtin.zeroCells z.cells m).toList ++ (Builtin.zeroCells z.cells (grownCap w (n + m) c E - (n + m))).toList)⟩ E (0, 0))], D⟩, fun a' ha' hD' => ⟨ha'.put hd _, by rw [put_defers]; exact hD', ?_⟩,
      h _ _ _ hge (grownCap_le_maxLen w (n + m) c E hmax.1) ?_⟩
    · simp only [execOp]
      simp [resolve, invoke, builtin, hc.1.eval hx, hc.1.eval hy, hr, Result.andThen]
    · have e : (olds.toArray ++ Builtin.zeroCells z.cells m ++ Builtin.zeroCells z.cells (grownCap w (n + m) c E - (n + m))) = (⟨olds ++ ((Builtin.zeroCells z.cells m).toList ++ (Builtin.zeroCells z.cells (grownCap w (n + m) c E - (n + m))).toList)⟩ : Array Value) := by
        apply Array.ext'
        simp
      rw [e]
      have h1 := Inv.alloc1 w.drew (.cells ⟨olds ++ ((Builtin.zeroCells z.cells m).toList ++ (Builtin.zeroCells z.cells (grownCap w (n + m) c E - (n + m))).toList)⟩ E (0, 0))
      have h2 : Inv C.w0 own w.drew := ⟨hc.2.2.below.trans ⟨rfl, rfl, rfl, Nat.le_refl _, fun _ _ => rfl⟩, hc.2.2.mem, hc.2.2.nodup⟩
      exact h2.append h1
    · simp only [List.length_append, Array.length_toList, size_zeroCells, hzs, hol]
      rw [← Nat.add_mul, ← Nat.add_mul]
      congr 1; omega
/-! ### overlaps -/
theorem SXL.overlapsNo {f tS tR e : Nat} {size : Nat} {xs : List Operand} {ats : Array TypeId} {b1 o1 n1 c1 b2 o2 n2 c2 : Nat} {l1 l2 : List Value} {E1 E2 : TypeId}
    (hov : ∀ args w, (callFunc f args).run C.P w = ((Extern.SlicesOverlaps.overlaps #[tS, tS] #[tR] args).run C.P w).andThen fun v w' => .ok (.value v) w') (hu : C.P.underlying tS = some (.slice e)) (hz : sizeP C.P e = some size)
    (i j : Nat) (hne : Nat.beq i j = false) (hi : own[i]? = some (b1, .cells ⟨l1⟩ E1 (0, 0))) (hj : own[j]? = some (b2, .cells ⟨l2⟩ E2 (0, 0))) (h1 : 0 < l1.length) (h2 : 0 < l2.length)
    (hx : evl env xs = some [.slice (some ⟨b1, o1, none⟩) n1 c1, .slice (some ⟨b2, o2, none⟩) n2 c2])
    (h : SXL C ops rest Q ⟨(d, .bool false) :: env, own, D⟩) (hd : Nat.blt d C.n = true := by rfl) (hw : Wanted ops g env = some true := by rfl) :
    SXL C ops ({ dst := some d, op := .call { callee := .value (.func f), args := ⟨xs⟩, argTypes := ats }, type := ty, pos, after := aft, guard := g } :: rest) Q ⟨env, own, D⟩ :=
  SXL.val rfl hd hw (fun _ e => by cases e) (fun a w ha hI => by
    rw [execOp_call_go]
    have := evl_map ha hx
    simp only [List.map_toArray, this]
    have l1' := live_of_len (b := b1) (E := E1) (fz := (0, 0)) h1
    have l2' := live_of_len (b := b2) (E := E2) (fz := (0, 0)) h2
    have g1 := (hI.get hi l1').2
    have g2 := (hI.get hj l2').2
    have hnb : b1 ≠ b2 := nodup_fst_ne hI.nodup hi hj l1' l2' (by intro e; subst e; simp at hne)
    simp only at g1 g2
    have hr := Lib.run_overlaps_apart (P := C.P) w tS tR e hu size (fun w => run_sizeOf hz) ⟨b1, o1, none⟩ ⟨b2, o2, none⟩ n1 c1 n2 c2 hnb E1 E2 l1.length l2.length (by simp [World.shape?, g1]) (by simp [World.shape?, g2]) (by omega) (by simp [World.frozen?, g1]) (by simp [World.frozen?, g1])
    have h3 := hov #[.slice (some ⟨b1, o1, none⟩) n1 c1, .slice (some ⟨b2, o2, none⟩) n2 c2] w
    rw [hr] at h3
    exact h3) h
/-! ### to unsigned integers and back -/
theorem SXL.cvU (hT : cvP C.P T T' .u64 = true) {A : Int} {k : IntKind} (hx : ev env x = some (.int k A)) (hb : 0 ≤ A ∧ A ≤ 9223372036854775807)
    (h : SXL C ops rest Q ⟨(d, .int .u64 A) :: env, own, D⟩) (hd : Nat.blt d C.n = true := by rfl) (hw : Wanted ops g env = some true := by rfl) :
    SXL C ops ({ dst := some d, op := .convert T T' x, type := ty, pos, after := aft, guard := g } :: rest) Q ⟨env, own, D⟩ :=
  SXL.val rfl hd hw (fun _ e => by cases e) (fun a w ha _ => by
    simp only [execOp, ha.eval hx]
    exact run_val (by rw [run_cv hT, show IntKind.u64.wrap A = A from by rw [IntKind.wrap_u64]; omega])) h
/-- Half of a number. -/
theorem SXL.half {A H : Int} (hx : ev env x = some (.int .u64 A)) {j : IntKind} (hy : ev env y = some (.int j 1)) (hH : A / 2 = H)
    (h : SXL C ops rest Q ⟨(d, .int .u64 H) :: env, own, D⟩) (hd : Nat.blt d C.n = true := by rfl) (hw : Wanted ops g env = some true := by rfl) :
    SXL C ops ({ dst := some d, op := .binOp .shr T x y T', type := ty, pos, after := aft, guard := g } :: rest) Q ⟨env, own, D⟩ :=
  SXL.shr hx hy (by omega) (by
    have : A.fdiv (2 ^ (Min.min (1 : Int).toNat IntKind.u64.bits)) = H := by
      rw [show (2 : Int) ^ (Min.min (1 : Int).toNat IntKind.u64.bits) = 2 from by decide, Int.fdiv_eq_ediv_of_nonneg _ (by omega), hH]
    rw [this]; exact h) hd hw
end
end Go.X

/- A reading more: where it is put, and whether the spring is valid. Nothing of Go stands here. -/
namespace Go.S
/-- How many readings stand before a number. -/
def insN : List Rd → Int → Nat
  | [], _ => 0
  | y :: r, n => if y.num < n then insN r n + 1 else 0
theorem insN_le : ∀ (l : List Rd) (n : Int), insN l n ≤ l.length
  | [], _ => Nat.le_refl _
  | y :: r, n => by
    simp only [insN]
    split
    · have := insN_le r n; simp; omega
    · simp
theorem insN_lt : ∀ (l : List Rd) (n : Int) (j : Nat), j < insN l n → (l.getD j default).num < n
  | [], _, _, h => absurd h (Nat.not_lt_zero _)
  | y :: r, n, j, h => by
    simp only [insN] at h
    split at h
    · rename_i hy
      cases j with
      | zero => simpa using hy
      | succ j => simpa using insN_lt r n j (by omega)
    · omega
theorem insN_ge : ∀ (l : List Rd) (n : Int), insN l n < l.length → n ≤ (l.getD (insN l n) default).num
  | [], _, h => absurd h (by simp)
  | y :: r, n, h => by
    simp only [insN] at h ⊢
    split
    · rename_i hy
      rw [if_pos hy] at h
      simpa using insN_ge r n (by simp at h; omega)
    · rename_i hy
      simp only [List.getD_cons_zero]
      omega
/-- Numbers that rise. -/
def Asc (l : List Rd) : Prop := ∀ i, 0 < i → i < l.length → (l.getD (i - 1) default).num < (l.getD i default).num
theorem asc_lt {l : List Rd} (h : Asc l) {i : Nat} : ∀ d, i + d < l.length → 0 < d → (l.getD i default).num < (l.getD (i + d) default).num
  | 0, _, h0 => absurd h0 (Nat.lt_irrefl _)
  | d + 1, hd, _ => by
    have h1 := h (i + (d + 1)) (by omega) hd
    rw [show i + (d + 1) - 1 = i + d by omega] at h1
    by_cases hz : d = 0
    · subst hz; simpa using h1
    · have := asc_lt h (i := i) d (by omega) (by omega); omega
theorem asc_ins {l : List Rd} (h : Asc l) {n : Int} {k : Nat} (hk : k < l.length) : (l.getD k default).num < n ↔ k < insN l n := by
  constructor
  · intro hlt
    rcases Nat.lt_or_ge k (insN l n) with h1 | h1
    · exact h1
    · exfalso
      have h2 := insN_ge l n (by omega)
      by_cases e : k = insN l n
      · rw [← e] at h2; omega
      · have := asc_lt h (i := insN l n) (k - insN l n) (by omega) (by omega)
        rw [show insN l n + (k - insN l n) = k by omega] at this
        omega
  · exact insN_lt l n k
theorem asc_of {s : Sp} (hv : SpP s) : Asc s.reads := fun i h0 hi => by
  have := (hv.2.2 i hi).2 h0
  simpa [List.getD_eq_getElem?_getD, List.getElem?_eq_getElem hi] using this
def insL (l : List Rd) (x : Rd) : List Rd := l.take (insN l x.num) ++ x :: l.drop (insN l x.num)
def insS (s : Sp) (x : Rd) : Sp := { s with reads := insL s.reads x }
theorem insL_len (l : List Rd) (x : Rd) : (insL l x).length = l.length + 1 := by
  have := insN_le l x.num
  simp [insL]; omega
def addE (s : Sp) (x : Rd) : Int := if ¬SpP s then 10 else if s.reads.length = 12 then 9 else if ¬SpP (insS s x) then 12 else 0
def addS (s : Sp) (x : Rd) : Sp := if addE s x = 0 then insS s x else zeroSp
theorem add_bad {s : Sp} {x : Rd} {e : Int} (h : addE s x = e) (he : e ≠ 0) : addS s x = zeroSp := by rw [addS, if_neg (by omega)]
theorem add_ok {s : Sp} {x : Rd} (h : addE s x = 0) : addS s x = insS s x := by rw [addS, if_pos h]
end Go.S

/- BinarySearchFunc, Insert, Add: the walks. -/
namespace Go.Proofs.YtknflipongbngaaDoor
open Go.X Go.S Go.RowKit
theorem cv_3_175 : cvP Tryd.prog 3 175 .u64 = true := by kernel_rfl
theorem cv_175_3 : cvP Tryd.prog 175 3 .i64 = true := by kernel_rfl
theorem i64_3 : isI64P Tryd.prog 3 = true := by kernel_rfl
theorem ov_rd (args : Array Value) (w : World) : (callFunc 124 args).run Tryd.prog w = ((Extern.SlicesOverlaps.overlaps #[25, 25] #[4] args).run Tryd.prog w).andThen fun v w' => .ok (.value v) w' :=
  run_callFunc_extern Tryd.func124 (by kernel_rfl) (by kernel_rfl) (by kernel_rfl) (by kernel_rfl) args w
/-- A reading put in: the slice behind it; the other blocks stay. -/
structure InsR (l : List Rd) (tail : X.Own) (v : Value) (own : X.Own) : Prop where
  ex : ∃ q : Sl, q.Ok l.length 5 (rdC l) ∧ v = q.val l.length ∧ own = q.ent 54 (rdC l) :: tail
def insAt (l : List Rd) (i : Nat) (x : Rd) : List Rd := l.take i ++ x :: l.drop i
theorem insAt_len (l : List Rd) (i : Nat) (x : Rd) (hi : i ≤ l.length) : (insAt l i x).length = l.length + 1 := by simp [insAt]; omega
theorem rdC_app (a b : List Rd) : rdC (a ++ b) = rdC a ++ rdC b := by simp [rdC]
theorem rdC_cons (x : Rd) (b : List Rd) : rdC (x :: b) = x.cells ++ rdC b := by simp [rdC]
theorem rdC_insAt (l : List Rd) (i : Nat) (x : Rd) : rdC (insAt l i x) = rdC (l.take i) ++ (x.cells ++ rdC (l.drop i)) := by rw [insAt, rdC_app, rdC_cons]
theorem rdC_split (l : List Rd) (i : Nat) : rdC (l.take i) ++ rdC (l.drop i) = rdC l := by rw [← rdC_app, List.take_append_drop]
theorem rdC_len' (l : List Rd) : (rdC l).length = l.length * 5 := by
  rw [rdC, length_flatten (k := 5) (by intro q hq; obtain ⟨x, _, rfl⟩ := List.mem_map.1 hq; rfl), List.length_map]
theorem rdC_one' (l : List Rd) : (rdC l).all isOne = true := by
  rw [List.all_eq_true]; intro v hv
  obtain ⟨q, hq, hv⟩ := List.mem_flatten.1 hv
  obtain ⟨x, _, rfl⟩ := List.mem_map.1 hq
  simp [Rd.cells] at hv
  rcases hv with rfl | rfl | rfl | rfl | rfl <;> rfl
theorem takeAt_mid (a b c : List Value) {off n : Nat} (h1 : a.length = off) (h2 : b.length = n) : takeAt (a ++ (b ++ c)) off n = some b :=
  takeAt_of h2 (fun j hj => by rw [List.getElem?_append_right (by omega), List.getElem?_append_left (by omega)]; congr 1; omega)
theorem putL_mid (a b b' c : List Value) {off : Nat} (h1 : a.length = off) (h2 : b.length = b'.length) : putL (a ++ (b ++ c)) off b' = a ++ (b' ++ c) := by
  have e1 : (a ++ (b ++ c)).take off = a := by rw [← h1, List.take_left']; rfl
  have e2 : (a ++ (b ++ c)).drop (off + b'.length) = c := by
    rw [← List.append_assoc, List.drop_left']; simp; omega
  rw [putL, e1, e2, List.append_assoc]
theorem addc_any (y : Rd) (n : Int) (w : World) :
    CallsR Tryd.prog 90 [.agg ⟨y.cells⟩, .int .i64 n] w (fun v _ => v = .int .i64 (cmpV y.num n)) := by
  refine CallsR.of_SX (n := 9) (rs := [.tmp 4]) Tryd.func90 rfl rfl rfl rfl ?_
  show SX _ _ _ ⟨[(0, .agg ⟨y.cells⟩), (1, .int .i64 n)], [], []⟩
  refine SX.seq ?_
  refine SX.region ?_
  refine SXL.box rfl rfl ?_; intro b0
  refine SXL.assign rfl ?_
  refine SXL.nil ?_
  refine thenQ.normal ?_
  refine SX.seq ?_
  refine SX.region ?_
  refine SXL.fieldAddr fp_54_0 rfl ?_
  refine SXL.load1o 0 sh_3 rfl rfl rfl ?_
  refine SXL.move rfl ?_
  refine SXL.call1 (.int .i64 (cmpV y.num n)) fn_91 rfl (fun w hI => compare_any y.num n _) ?_
  refine SXL.assign rfl ?_
  refine SXL.nil ?_
  refine thenQ.normal ?_
  refine SX.ret ?_
  refine retQ.one (ResAt.tmp rfl) ?_
  first | rfl | assumption
structure BsR (reads : List Rd) (n : Int) (v : Value) : Prop where
  ex : ∃ p : Bool, v = .tuple ⟨[.int .i64 (insN reads n : Nat), .bool p]⟩
theorem rdD {w : World} {reads : List Rd} {ao : Option Addr} (h : RowsAt w ao 5 (reads.map Rd.cells)) {i : Nat} (hi : i < reads.length) : ∃ b o, ao = some ⟨b, o, none⟩ ∧ ∀ own, Mem w own b (o + i * 5) (reads.getD i default).cells :=
  h.get (by simp [hi])
theorem bsearch_any (reads : List Rd) (hA : Asc reads) (ao : Option Addr) (c : Nat) (n : Int) (hl : reads.length ≤ 1000) (w : World) (hro : RowsAt w ao 5 (reads.map Rd.cells)) :
    CallsR Tryd.prog 89 [.slice ao reads.length c, .int .i64 n, .func (.func 90) ⟨[]⟩ ⟨[]⟩] w (fun v _ => BsR reads n v) := by
  refine CallsR.of_SX (n := 49) (rs := [.tmp 6, .tmp 7]) Tryd.func89 rfl rfl rfl rfl ?_
  show SX _ _ _ ⟨[(0, .slice ao reads.length c), (1, .int .i64 n), (2, .func (.func 90) ⟨[]⟩ ⟨[]⟩)], [], []⟩
  refine SX.seq ?_
  refine SX.region ?_
  refine SXL.assign rfl ?_
  refine SXL.assign rfl ?_
  refine SXL.nil ?_
  refine thenQ.normal ?_
  refine SX.seq ?_
  refine SX.region ?_
  refine SXL.move rfl ?_
  refine SXL.len is_25 rfl ?_
  refine SXL.assign rfl ?_
  refine SXL.nil ?_
  refine thenQ.normal ?_
  refine SX.seq ?_
  refine SX.region ?_
  refine SXL.move rfl ?_
  refine SXL.assign rfl ?_
  refine SXL.assign rfl ?_
  refine SXL.nil ?_
  refine thenQ.normal ?_
  refine SX.seq ?_
  refine SX.block ?_
  refine SX.loopG (α := Nat × Nat) [0, 1, 2, 6, 7, 8] rfl (fun ⟨i, j⟩ => [(9, .int .i64 ((i : Int))), (10, .int .i64 ((j : Int)))]) (fun ⟨i, j⟩ => []) (fun ⟨i, j⟩ => (i ≤ insN reads n ∧ insN reads n ≤ j) ∧ j ≤ reads.length) (fun ⟨i, j⟩ => j - i) (0, reads.length) ⟨⟨Nat.zero_le _, insN_le _ _⟩, Nat.le_refl _⟩ ⟨rfl, rfl, trivial⟩ rfl ?_
  rintro ⟨i, j⟩ ⟨⟨hi0, hj0⟩, hjl⟩
  refine SX.seq ?_
  refine SX.seq ?_
  refine SX.region ?_
  refine SXL.move rfl ?_
  refine SXL.move rfl ?_
  refine SXL.lss rfl rfl ?_
  refine SXL.nil ?_
  refine thenQ.normal ?_
  refine SX.condP rfl (fun c1 => ?_) (fun c1 => ?_)
  · refine SX.skip ?_
    refine thenQ.normal ?_
    refine SX.block ?_
    refine SX.seq ?_
    obtain ⟨h, hh⟩ : ∃ h : Nat, ((i : Int) + (j : Int)) / 2 = h := ⟨(i + j) / 2, by omega⟩
    refine SX.region ?_
    refine SXL.move rfl ?_
    refine SXL.move rfl ?_
    refine SXL.add rfl rfl (by omega) ?_
    refine SXL.cvU cv_3_175 rfl (by omega) ?_
    refine SXL.half rfl rfl hh ?_
    refine SXL.cv cv_175_3 rfl (by omega) ?_
    refine SXL.assign rfl ?_
    refine SXL.nil ?_
    refine thenQ.normal ?_
    refine SX.seq ?_
    have hlt : h < reads.length := by omega
    obtain ⟨b, o, ha, hm⟩ := rdD hro hlt
    have hi := asc_ins hA (n := n) hlt
    refine SX.region ?_
    refine SXL.move rfl ?_
    refine SXL.move rfl ?_
    refine SXL.move rfl ?_
    refine SXL.indexR el_25 rfl rfl ha (by omega) ?_
    refine SXL.loadN sh_54 rfl (hm _) rfl ?_
    refine SXL.move rfl ?_
    refine SXL.call1V (.int .i64 (cmpV (reads.getD h default).num n)) fn_90 rfl rfl (fun w hI => addc_any (reads.getD h default) n w) ?_
    refine SXL.lss rfl rfl ?_
    refine SXL.nil ?_
    refine thenQ.normal ?_
    refine SX.condP rfl (fun c31 => ?_) (fun c31 => ?_)
    · refine SX.region ?_
      refine SXL.move rfl ?_
      refine SXL.add rfl rfl (by omega) ?_
      refine SXL.assign rfl ?_
      refine SXL.nil ?_
      refine blockQ.normal ?_
      refine thenQ.normal ?_
      refine ⟨(_, _), Meets.mk _ ⟨rfl, rfl, trivial⟩ ⟨rfl, rfl, rfl, rfl, rfl, rfl, trivial⟩ rfl, ?_, ?_⟩
      · have hc := c31
        rw [cmpV_neg] at hc
        first | (show (h + 1 ≤ _ ∧ _ ≤ j) ∧ j ≤ _; omega) | (show (i ≤ _ ∧ _ ≤ h) ∧ h ≤ _; omega)
      · first | (show j - (h + 1) < j - i; omega) | (show h - i < j - i; omega)
    · refine SX.region ?_
      refine SXL.move rfl ?_
      refine SXL.assign rfl ?_
      refine SXL.nil ?_
      refine blockQ.normal ?_
      refine thenQ.normal ?_
      refine ⟨(_, _), Meets.mk _ ⟨rfl, rfl, trivial⟩ ⟨rfl, rfl, rfl, rfl, rfl, rfl, trivial⟩ rfl, ?_, ?_⟩
      · have hc := c31
        rw [cmpV_neg] at hc
        first | (show (h + 1 ≤ _ ∧ _ ≤ j) ∧ j ≤ _; omega) | (show (i ≤ _ ∧ _ ≤ h) ∧ h ≤ _; omega)
      · first | (show j - (h + 1) < j - i; omega) | (show h - i < j - i; omega)
  · refine SX.exit ?_
    refine thenQ.exit ?_
    refine thenQ.exit ?_
    refine blockQ.exit ?_
    refine thenQ.normal ?_
    refine SX.seq ?_
    obtain rfl : i = insN reads n := by omega
    refine SX.region ?_
    refine SXL.move rfl ?_
    refine SXL.move rfl ?_
    refine SXL.move rfl ?_
    refine SXL.lss rfl rfl ?_
    refine SXL.move rfl ?_
    apply SXL.andG 8
    case hl => exact rfl
    case hd => exact rfl
    case hg => exact rfl
    case ht =>
      intro g3
      obtain ⟨b2, o2, ha2, hm2⟩ := rdD hro (show insN reads n < reads.length by omega)
      refine SXL.move rfl ?_
      refine SXL.move rfl ?_
      refine SXL.move rfl ?_
      refine SXL.indexR el_25 rfl rfl ha2 (by omega) ?_
      refine SXL.loadN sh_54 rfl (hm2 _) rfl ?_
      refine SXL.move rfl ?_
      refine SXL.call1V (.int .i64 (cmpV (reads.getD (insN reads n) default).num n)) fn_90 rfl rfl (fun w hI => addc_any (reads.getD (insN reads n) default) n w) ?_
      refine SXL.eqlI rfl rfl ?_
      exact SXL.nil (segQ.mk (.skip rfl (.skip rfl (.skip rfl (.skip rfl (.skip rfl (.skip rfl (.skip rfl (.skip rfl (.skip rfl (EnvSub.refl _)))))))))) rfl rfl ⟨rfl, rfl⟩)
    case hf =>
      intro g3
      refine SXL.pass rfl rfl rfl ?_
      refine SXL.pass rfl rfl rfl ?_
      refine SXL.pass rfl rfl rfl ?_
      refine SXL.pass rfl rfl rfl ?_
      refine SXL.pass rfl rfl rfl ?_
      refine SXL.pass rfl rfl rfl ?_
      refine SXL.pass rfl rfl rfl ?_
      refine SXL.pass rfl rfl rfl ?_
      exact SXL.nil (segQ.mk (.skip rfl (.skip rfl (.skip rfl (.skip rfl (.skip rfl (.skip rfl (.skip rfl (.skip rfl (.skip rfl (EnvSub.refl _)))))))))) rfl rfl rfl)
    refine SXL.assign rfl ?_
    refine SXL.assign rfl ?_
    refine SXL.nil ?_
    refine thenQ.normal ?_
    refine SX.ret ?_
    refine retQ.two (ResAt.tmp rfl) (ResAt.tmp rfl) ?_
    exact ⟨_, rfl⟩
set_option maxHeartbeats 2000000 in
theorem insert_rd (l : List Rd) (x : Rd) (i : Nat) (hi : i ≤ l.length) (hl : l.length ≤ 1000) (q : Sl) (hq : q.Ok l.length 5 (rdC l)) (b : Nat) (tail : X.Own) (w0 w : World) (hI : Inv w0 (q.ent 54 (rdC l) :: (b, .cells ⟨x.cells⟩ 54 (0, 0)) :: tail) w) :
    Calls Tryd.prog 92 ⟨[q.val l.length, .int .i64 ((i : Int)), .slice (some ⟨b, 0, none⟩) 1 1]⟩ w fun e w' => ∃ v own', e = .returned v ∧ Inv w0 own' w' ∧ (InsR (insAt l i x) tail) v own' := by
  have hcap := hq.cap
  have hmx := hq.max
  have hlen := rdC_len' l
  have hA1 := rdC_len' (l.take i)
  have hB1 := rdC_len' (l.drop i)
  rw [List.length_take, Nat.min_eq_left hi] at hA1
  rw [List.length_drop] at hB1
  have hil := insAt_len l i x hi
  refine Calls.of_SX (n := 95) (rs := [.tmp 6]) (R := InsR (insAt l i x) tail) hI Tryd.func92 rfl rfl rfl rfl ?_
  show SX _ _ _ ⟨[(0, q.val l.length), (1, .int .i64 ((i : Int))), (2, .slice (some ⟨b, 0, none⟩) 1 1)], q.ent 54 (rdC l) :: (b, .cells ⟨x.cells⟩ 54 (0, 0)) :: tail, []⟩
  refine SX.seq ?_
  refine SX.region ?_
  refine SXL.assign rfl ?_
  refine SXL.nil ?_
  refine thenQ.normal ?_
  refine SX.seq ?_
  refine SX.region ?_
  refine SXL.move rfl ?_
  refine SXL.move rfl ?_
  refine SXL.sliceL el_25 rfl rfl (by omega) ?_
  refine SXL.nil ?_
  refine thenQ.normal ?_
  refine SX.seq ?_
  refine SX.region ?_
  refine SXL.move rfl ?_
  refine SXL.len is_25 rfl ?_
  refine SXL.assign rfl ?_
  refine SXL.nil ?_
  refine thenQ.normal ?_
  refine SX.seq ?_
  refine SX.seq ?_
  refine SX.region ?_
  refine SXL.move rfl ?_
  refine SXL.eqlI rfl rfl ?_
  refine SXL.nil ?_
  refine thenQ.normal ?_
  refine SX.condP rfl (fun c16 => ?_) (fun c16 => ?_)
  · exfalso; omega
  refine SX.skip ?_
  refine thenQ.normal ?_
  refine SX.seq ?_
  refine SX.region ?_
  refine SXL.move rfl ?_
  refine SXL.len is_25 rfl ?_
  refine SXL.assign rfl ?_
  refine SXL.nil ?_
  refine thenQ.normal ?_
  refine SX.seq ?_
  refine SX.seq ?_
  refine SX.region ?_
  refine SXL.move rfl ?_
  refine SXL.move rfl ?_
  refine SXL.eqlI rfl rfl ?_
  refine SXL.nil ?_
  refine thenQ.normal ?_
  refine SX.condP rfl (fun c22 => ?_) (fun c22 => ?_)
  · refine SX.seq ?_
    refine SX.region ?_
    refine SXL.move rfl ?_
    refine SXL.move rfl ?_
    refine SXL.append 0 ap_25 rfl rfl hq rfl (.inr ⟨_, _, rfl, Mem.own (i := 1) rfl (takeAt_all _)⟩) rfl rfl ⟨by simp only [maxLen]; omega, by omega⟩ ?_; intro r_25 o_25
    refine SXL.assign rfl ?_
    refine SXL.nil ?_
    refine thenQ.normal ?_
    refine SX.ret ?_
    refine thenQ.ret ?_
    refine retQ.selS (show Sel (r_25.ent 54 (rdC l ++ x.cells) :: tail) (r_25.ent 54 (rdC l ++ x.cells) :: (b, .cells ⟨x.cells⟩ 54 (0, 0)) :: tail) from Sel.sub ((List.sublist_cons_self _ _).cons_cons _)) ?_
    refine retQ.one (ResAt.tmp rfl) ?_
    obtain rfl : i = l.length := by omega
    have e : rdC (insAt l l.length x) = rdC l ++ x.cells := by rw [rdC_insAt, List.take_length, List.drop_length]; simp [rdC]
    exact ⟨r_25, by rw [e, hil]; exact o_25, by rw [hil], by rw [e]⟩
  · refine SX.skip ?_
    refine thenQ.normal ?_
    refine SX.seq ?_
    refine SX.seq ?_
    obtain ⟨g, hg⟩ := hq.some (by omega)
    have hfull := hq.full g hg
    obtain ⟨blk, c, sp⟩ := q
    obtain rfl : blk = some g := hg
    dsimp only at hcap hmx hfull
    have hcE : (Sl.mk (some g) c sp).cap = c := rfl
    have hxc : x.cells.length = 5 := rfl
    have hx1 : x.cells.all isOne = true := rfl
    refine SX.region ?_
    refine SXL.move rfl ?_
    refine SXL.move rfl ?_
    refine SXL.add rfl rfl (by omega) ?_
    refine SXL.move rfl ?_
    refine SXL.cap is_25 rfl ?_
    refine SXL.gtr rfl rfl ?_
    refine SXL.nil ?_
    refine thenQ.normal ?_
    refine SX.condP rfl (fun c31 => ?_) (fun c31 => ?_)
    · refine SX.seq ?_
      refine SX.region ?_
      refine SXL.move rfl ?_
      refine SXL.move rfl ?_
      refine SXL.sliceHo (k := i) el_25 rfl rfl rfl (by omega) ?_
      refine SXL.move rfl ?_
      refine SXL.move rfl ?_
      refine SXL.add rfl rfl (by omega) ?_
      refine SXL.move rfl ?_
      refine SXL.subE (R := ((l.length + 1 - i : Nat) : Int)) rfl rfl (by omega) (by omega) ?_
      refine SXL.appendZ (m := l.length + 1 - i) (olds := (rdC (l.take i))) ap_25 i64_3 rfl rfl ⟨_, _, rfl, Mem.own (i := 0) rfl (show takeAt (rdC l ++ sp) 0 (i * 5) = _ from by rw [← rdC_split l i, List.append_assoc]; exact takeAt_mid [] (rdC (l.take i)) ((rdC (l.drop i)) ++ sp) rfl (by omega))⟩ hA1 (by omega) (by omega) ⟨by simp only [maxLen]; omega, by omega⟩ ?_; intro b2 c2 zs hc1 hc2 hz
      refine SXL.insN 2 ?_
      rw [show i + (l.length + 1 - i) = l.length + 1 from by omega] at hc1 ⊢
      rw [List.length_append] at hz
      obtain ⟨z1, z2, z3, rfl, hz1, hz2⟩ : ∃ z1 z2 z3, zs = z1 ++ (z2 ++ z3) ∧ z1.length = 5 ∧ z2.length = (l.length - i) * 5 := ⟨zs.take 5, (zs.drop 5).take ((l.length - i) * 5), (zs.drop 5).drop ((l.length - i) * 5), by rw [List.take_append_drop, List.take_append_drop], by rw [List.length_take]; omega, by rw [List.length_take, List.length_drop]; omega⟩
      rw [List.length_append, List.length_append] at hz
      refine SXL.assign rfl ?_
      refine SXL.nil ?_
      refine thenQ.normal ?_
      refine SX.seq ?_
      refine SX.region ?_
      refine SXL.move rfl ?_
      refine SXL.move rfl ?_
      refine SXL.sliceLo (k := i) el_25 rfl rfl rfl ⟨by omega, by omega⟩ ?_
      refine SXL.move rfl ?_
      refine SXL.copyE 2 (n := 1) (news := x.cells) (l' := (rdC (l.take i)) ++ (x.cells ++ (z2 ++ z3))) el_25 rfl rfl rfl (by rw [List.length_append, List.length_append]; omega) (Nat.min_eq_left (by omega)) rfl ⟨_, _, rfl, Mem.own (i := 1) rfl (takeAt_all _)⟩ (by simp only [List.length_append]; omega) hx1 (putL_mid (rdC (l.take i)) z1 x.cells (z2 ++ z3) (by omega) (by omega)) ?_
      refine SXL.nil ?_
      refine thenQ.normal ?_
      refine SX.seq ?_
      refine SX.draw 8 (by kernel_rfl) (by kernel_rfl) {} ?_
      refine SXA.take 0 8 rfl (by kernel_rfl) rfl ?_
      refine SXL.move rfl ?_
      refine SXL.move rfl ?_
      refine SXL.move rfl ?_
      refine SXL.add rfl rfl (by omega) ?_
      refine SXL.sliceLo (k := i + 1) el_25 rfl rfl rfl ⟨by omega, by omega⟩ ?_
      refine SXL.move rfl ?_
      refine SXL.move rfl ?_
      refine SXL.sliceLo (k := i) el_25 rfl rfl rfl ⟨by omega, by omega⟩ ?_
      refine SXL.nil ⟨rfl, rfl, rfl, ?_⟩
      refine SXA.done (by kernel_rfl) ?_
      refine SXL.copyE 2 (n := l.length - i) (news := (rdC (l.drop i))) (l' := ((rdC (l.take i)) ++ x.cells) ++ ((rdC (l.drop i)) ++ z3)) el_25 rfl rfl rfl (by simp only [List.length_append]; omega) (Nat.min_eq_left (by omega)) hB1 ⟨_, _, rfl, Mem.own (i := 0) rfl (show takeAt (rdC l ++ sp) (0 + i * 5) _ = _ from by rw [← rdC_split l i, List.append_assoc]; exact takeAt_mid (rdC (l.take i)) (rdC (l.drop i)) sp (by omega) rfl)⟩ (by simp only [List.length_append]; omega) (rdC_one' _) (by rw [← List.append_assoc (rdC (l.take i))]; exact putL_mid ((rdC (l.take i)) ++ x.cells) z2 (rdC (l.drop i)) z3 (by rw [List.length_append]; omega) (by omega)) ?_
      refine SXL.nil ?_
      refine thenQ.normal ?_
      refine SX.seq ?_
      refine SX.region ?_
      refine SXL.move rfl ?_
      refine SXL.assign rfl ?_
      refine SXL.nil ?_
      refine thenQ.normal ?_
      refine SX.ret ?_
      refine thenQ.ret ?_
      refine retQ.selS (show Sel ((b2, .cells ⟨(rdC (l.take i) ++ x.cells) ++ (rdC (l.drop i) ++ z3)⟩ 54 (0, 0)) :: tail) (_ :: (b, .cells ⟨x.cells⟩ 54 (0, 0)) :: (b2, .cells ⟨(rdC (l.take i) ++ x.cells) ++ (rdC (l.drop i) ++ z3)⟩ 54 (0, 0)) :: tail) from Sel.sub ((List.sublist_cons_self _ _).trans (List.sublist_cons_self _ _))) ?_
      refine retQ.one (ResAt.tmp rfl) ?_
      refine ⟨⟨some b2, c2, z3⟩, ⟨by rw [rdC_len', hil], by rw [hil]; exact hc1, hc2, (fun h => by cases h), fun _ _ => ?_⟩, by rw [hil]; rfl, ?_⟩
      · rw [rdC_len', hil]; show _ + z3.length = c2 * 5; omega
      · rw [rdC_insAt]; show _ :: tail = (b2, Obj.cells ⟨((rdC (l.take i)) ++ (x.cells ++ (rdC (l.drop i)))) ++ z3⟩ 54 (0, 0)) :: tail; simp only [List.append_assoc]
    · refine SX.skip ?_
      refine thenQ.normal ?_
      refine SX.seq ?_
      obtain ⟨z1, z2, rfl, hz1⟩ : ∃ z1 z2, sp = z1 ++ z2 ∧ z1.length = 5 := ⟨sp.take 5, sp.drop 5, (List.take_append_drop 5 sp).symm, by rw [List.length_take]; omega⟩
      obtain ⟨K, R1, hKR, hK⟩ : ∃ K R1, (rdC (l.drop i)) ++ z1 = K ++ R1 ∧ K.length = 5 := ⟨((rdC (l.drop i)) ++ z1).take 5, ((rdC (l.drop i)) ++ z1).drop 5, (List.take_append_drop 5 _).symm, by rw [List.length_take, List.length_append]; omega⟩
      have hR1 : R1.length = (rdC (l.drop i)).length := by have h1 := congrArg List.length hKR; rw [List.length_append, List.length_append] at h1; omega
      have hcells : rdC l ++ (z1 ++ z2) = (rdC (l.take i)) ++ (K ++ (R1 ++ z2)) := by rw [← rdC_split l i, List.append_assoc, ← List.append_assoc (rdC (l.drop i)) z1 z2, hKR, List.append_assoc]
      rw [List.length_append] at hfull
      refine SX.region ?_
      refine SXL.move rfl ?_
      refine SXL.move rfl ?_
      refine SXL.move rfl ?_
      refine SXL.add rfl rfl (by omega) ?_
      refine SXL.sliceHo (k := l.length + 1) el_25 rfl rfl (by omega) (by omega) ?_
      refine SXL.assign rfl ?_
      refine SXL.nil ?_
      refine thenQ.normal ?_
      refine SX.seq ?_
      refine SX.seq ?_
      refine SX.region ?_
      refine SXL.move rfl ?_
      refine SXL.move rfl ?_
      refine SXL.move rfl ?_
      refine SXL.move rfl ?_
      refine SXL.add rfl rfl (by omega) ?_
      refine SXL.sliceLo (k := i + 1) el_25 rfl rfl rfl ⟨by omega, by omega⟩ ?_
      refine SXL.overlapsNo (l2 := rdC l ++ (z1 ++ z2)) ov_rd (e := 54) (size := 5) (by kernel_rfl) (by kernel_rfl) 1 0 rfl rfl rfl (by omega) (by simp only [List.length_append]; omega) rfl ?_
      refine SXL.not (p := False) rfl ?_
      refine SXL.nil ?_
      refine thenQ.normal ?_
      refine SX.condP rfl (fun c68 => ?_) (fun c68 => ?_)
      rotate_left
      · exfalso; exact c68 (fun h => h.elim)
      refine SX.seq ?_
      refine SX.draw 8 (by kernel_rfl) (by kernel_rfl) {} ?_
      refine SXA.take 0 8 rfl (by kernel_rfl) rfl ?_
      refine SXL.move rfl ?_
      refine SXL.move rfl ?_
      refine SXL.move rfl ?_
      refine SXL.add rfl rfl (by omega) ?_
      refine SXL.sliceLo (k := i + 1) el_25 rfl rfl rfl ⟨by omega, by omega⟩ ?_
      refine SXL.move rfl ?_
      refine SXL.move rfl ?_
      refine SXL.sliceLo (k := i) el_25 rfl rfl rfl ⟨by omega, by omega⟩ ?_
      refine SXL.nil ⟨rfl, rfl, rfl, ?_⟩
      refine SXA.done (by kernel_rfl) ?_
      refine SXL.copyE 0 (l := rdC l ++ (z1 ++ z2)) (n := l.length - i) (news := (rdC (l.drop i))) (l' := (rdC (l.take i)) ++ (K ++ ((rdC (l.drop i)) ++ z2))) el_25 rfl rfl rfl (by simp only [List.length_append]; omega) ((Nat.min_eq_right (show l.length + 1 - (i + 1) ≤ l.length + 1 - i by omega)).trans (by omega)) hB1 ⟨_, _, rfl, Mem.own (i := 0) rfl (show takeAt (rdC l ++ (z1 ++ z2)) (0 + i * 5) _ = _ from by rw [← rdC_split l i, List.append_assoc]; exact takeAt_mid (rdC (l.take i)) (rdC (l.drop i)) (z1 ++ z2) (by omega) rfl)⟩ (by simp only [List.length_append]; omega) (rdC_one' _) (by rw [hcells, ← List.append_assoc (rdC (l.take i)), putL_mid ((rdC (l.take i)) ++ K) R1 (rdC (l.drop i)) z2 (by rw [List.length_append]; omega) (by omega), List.append_assoc]) ?_
      refine SXL.nil ?_
      refine thenQ.normal ?_
      refine SX.seq ?_
      refine SX.region ?_
      refine SXL.move rfl ?_
      refine SXL.move rfl ?_
      refine SXL.sliceLo (k := i) el_25 rfl rfl rfl ⟨by omega, by omega⟩ ?_
      refine SXL.move rfl ?_
      refine SXL.copyE 0 (n := 1) (news := x.cells) (l' := (rdC (l.take i)) ++ (x.cells ++ ((rdC (l.drop i)) ++ z2))) el_25 rfl rfl rfl (by simp only [List.length_append]; omega) (Nat.min_eq_left (by omega)) rfl ⟨_, _, rfl, Mem.own (i := 1) rfl (takeAt_all _)⟩ (by simp only [List.length_append]; omega) hx1 (putL_mid (rdC (l.take i)) K x.cells ((rdC (l.drop i)) ++ z2) (by omega) (by omega)) ?_
      refine SXL.nil ?_
      refine thenQ.normal ?_
      refine SX.seq ?_
      refine SX.region ?_
      refine SXL.move rfl ?_
      refine SXL.assign rfl ?_
      refine SXL.nil ?_
      refine thenQ.normal ?_
      refine SX.ret ?_
      refine thenQ.ret ?_
      refine retQ.selS (show Sel ((g, .cells ⟨rdC (l.take i) ++ (x.cells ++ (rdC (l.drop i) ++ z2))⟩ 54 (0, 0)) :: tail) ((g, .cells ⟨rdC (l.take i) ++ (x.cells ++ (rdC (l.drop i) ++ z2))⟩ 54 (0, 0)) :: (b, .cells ⟨x.cells⟩ 54 (0, 0)) :: tail) from Sel.sub ((List.sublist_cons_self _ _).cons_cons _)) ?_
      refine retQ.one (ResAt.tmp rfl) ?_
      refine ⟨⟨some g, c, z2⟩, ⟨by rw [rdC_len', hil], by rw [hil]; show _ ≤ c; omega, hmx, (fun h => by cases h), fun _ _ => ?_⟩, by rw [hil]; rfl, ?_⟩
      · rw [rdC_len', hil]; show _ + z2.length = c * 5; omega
      · rw [rdC_insAt]; show _ :: tail = (g, Obj.cells ⟨((rdC (l.take i)) ++ (x.cells ++ (rdC (l.drop i)))) ++ z2⟩ 54 (0, 0)) :: tail; simp only [List.append_assoc]
end Go.Proofs.YtknflipongbngaaDoor

/- Parts of rows in memory. -/
namespace Go.X
open Go Go.RowKit
theorem RowsAt.take {w : World} {ao : Option Addr} {k : Nat} {rows : List (List Value)} (h : RowsAt w ao k rows) (i : Nat) : RowsAt w ao k (rows.take i) := by
  rcases h with rfl | ⟨b, o, rfl, h2⟩
  · left; simp
  · right
    refine ⟨b, o, rfl, fun j r hr => h2 j r ?_⟩
    rw [List.getElem?_take] at hr
    split at hr
    · exact hr
    · cases hr
theorem RowsAt.cutH {w : World} {ao : Option Addr} {k : Nat} {rows : List (List Value)} (h : RowsAt w ao k rows) (i c : Nat) : RowsAt w (cutAddr ao 0 c k) k (rows.take i) := by
  have h1 := h.take i
  rcases h1 with h1 | ⟨b, o, rfl, h2⟩
  · exact .inl h1
  · right
    refine ⟨b, o, ?_, h2⟩
    rw [cut_own (.inr rfl)]; simp
theorem RowsAt.cutL {w : World} {ao : Option Addr} {k : Nat} {rows : List (List Value)} (h : RowsAt w ao k rows) {i c : Nat} (hc : rows.length ≤ c) : RowsAt w (cutAddr ao i c k) k (rows.drop i) := by
  by_cases hi : rows.length ≤ i
  · left; exact List.drop_eq_nil_of_le hi
  · rcases h with rfl | ⟨b, o, rfl, h2⟩
    · simp at hi
    · right
      refine ⟨b, o + i * k, cut_own (.inl (by omega)), fun j r hr u v hu => ?_⟩
      rw [List.getElem?_drop] at hr
      have := h2 (i + j) r hr u v hu
      rwa [show o + (i + j) * k + u = o + i * k + j * k + u by rw [Nat.add_mul]; omega] at this
end Go.X
namespace Go.S
open Go Go.X
end Go.S

/- Add: the walks. -/
namespace Go.Proofs.YtknflipongbngaaDoor
open Go.X Go.S Go.RowKit
theorem srcRd {w : World} {l : List Rd} {n : Nat} {ao : Option Addr} (h : RowsAt w ao 5 (l.map Rd.cells)) (hn : l.length = n) (own : X.Own) : Src w own ao n (rdC l) := by
  have := h.src (by omega) (by intro q hq; obtain ⟨x, _, rfl⟩ := List.mem_map.1 hq; rfl) own
  rw [List.length_map, hn] at this
  exact this
theorem rdC_ins (l : List Rd) (x : Rd) : rdC (insL l x) = rdC (l.take (insN l x.num)) ++ x.cells ++ rdC (l.drop (insN l x.num)) := by
  have := rdC_insAt l (insN l x.num) x
  rw [List.append_assoc]; exact this
set_option maxHeartbeats 4000000 in
theorem radd_any (s : Sp) (bo ro : Option Addr) (bc rc : Nat) (x : Rd) (hrc : s.reads.length ≤ rc) (w : World) (hs : SpAt w s bo ro) :
    CallsR Tryd.prog 37 [.agg ⟨[.int .i64 s.weeks, .int .i64 s.most, .int .i64 s.fall, .int .i64 s.a0, .int .i64 s.a1, .int .i64 s.w0, .int .i64 s.w1, (.slice bo s.book.length bc), (.slice ro s.reads.length rc)]⟩, .agg ⟨x.cells⟩] w (SpE (addS s x) (addE s x)) := by
  refine CallsR.of_SX (n := 57) (rs := [.cell 4 27, .tmp 5]) Tryd.func37 rfl rfl rfl rfl ?_
  show SX _ _ _ ⟨[(0, .agg ⟨[.int .i64 s.weeks, .int .i64 s.most, .int .i64 s.fall, .int .i64 s.a0, .int .i64 s.a1, .int .i64 s.w0, .int .i64 s.w1, (.slice bo s.book.length bc), (.slice ro s.reads.length rc)]⟩), (1, .agg ⟨x.cells⟩)], [], []⟩
  refine SX.seq ?_
  refine SX.region ?_
  refine SXL.box rfl rfl ?_; intro b0
  refine SXL.box rfl rfl ?_; intro b1
  refine SXL.alloc zp_27 ?_; intro b2
  refine SXL.assign rfl ?_
  refine SXL.nil ?_
  refine thenQ.normal ?_
  refine SX.seq ?_
  refine SX.seq ?_
  refine SX.region ?_
  refine SXL.loadNo 0 sh_27 rfl rfl rfl ?_
  refine SXL.call1 (.bool (decide (SpP s))) fn_74 rfl (fun w hI => spring_any s bo ro bc rc _ (hs.inv hI)) ?_
  refine SXL.not rfl ?_
  refine SXL.nil ?_
  refine thenQ.normal ?_
  refine SX.condP rfl (fun c10 => ?_) (fun c10 => ?_)
  · refine SX.seq ?_
    refine SX.region ?_
    refine SXL.buildS pl_27 zp_27 rfl rfl ?_
    refine SXL.store 2 sz_27 rfl rfl rfl rfl rfl rfl ?_
    refine SXL.assign rfl ?_
    refine SXL.nil ?_
    refine thenQ.normal ?_
    refine SX.ret ?_
    refine thenQ.ret ?_
    refine retQ.dead [Sl.nil.ent 61 [], Sl.nil.ent 54 []] rfl ?_
    refine retQ.two (ResAt.cellNo 2 sh_27 rfl rfl rfl) (ResAt.tmp rfl) ?_
    have he : addE s x = 10 := by rw [addE, if_pos c10]
    rw [add_bad he (by omega), he]; exact SpE.zero _
  · refine SX.skip ?_
    refine thenQ.normal ?_
    refine SX.seq ?_
    refine SX.seq ?_
    have hv : SpP s := Decidable.not_not.1 c10
    have hH := hv.1
    unfold HeadP at hH
    refine SX.region ?_
    refine SXL.fieldAddr fp_27_6 rfl ?_
    refine SXL.load1o 0 sh_25 rfl rfl rfl ?_
    refine SXL.len is_25 rfl ?_
    refine SXL.eqlI rfl rfl ?_
    refine SXL.nil ?_
    refine thenQ.normal ?_
    refine SX.condP rfl (fun c15 => ?_) (fun c15 => ?_)
    · refine SX.seq ?_
      refine SX.region ?_
      refine SXL.buildS pl_27 zp_27 rfl rfl ?_
      refine SXL.store 2 sz_27 rfl rfl rfl rfl rfl rfl ?_
      refine SXL.assign rfl ?_
      refine SXL.nil ?_
      refine thenQ.normal ?_
      refine SX.ret ?_
      refine thenQ.ret ?_
      refine retQ.dead [Sl.nil.ent 61 [], Sl.nil.ent 54 []] rfl ?_
      refine retQ.two (ResAt.cellNo 2 sh_27 rfl rfl rfl) (ResAt.tmp rfl) ?_
      have he : addE s x = 9 := by rw [addE, if_neg (not_not_intro hv), if_pos (by omega)]
      rw [add_bad he (by omega), he]; exact SpE.zero _
    · refine SX.skip ?_
      refine thenQ.normal ?_
      refine SX.seq ?_
      refine SX.region ?_
      refine SXL.assign rfl ?_
      refine SXL.nil ?_
      refine thenQ.normal ?_
      refine SX.seq ?_
      refine SX.block ?_
      refine SX.loopG (α := Nat) [2, 3, 4, 5] rfl (fun k => [(6, .int .i64 ((k : Int)))]) (fun k => []) (fun k => k ≤ insN s.reads x.num) (fun k => s.reads.length - k) 0 (Nat.zero_le _) ⟨rfl, trivial⟩ rfl ?_
      rintro k hk0
      refine SX.seq ?_
      refine SX.seq ?_
      refine SX.draw 16 (by kernel_rfl) (by kernel_rfl) {} ?_
      refine SXA.take 0 16 rfl (by kernel_rfl) rfl ?_
      refine SXL.move rfl ?_
      refine SXL.fieldAddr fp_27_6 rfl ?_
      refine SXL.load1o 0 sh_25 rfl rfl rfl ?_
      refine SXL.len is_25 rfl ?_
      refine SXL.lss rfl rfl ?_
      refine SXL.move rfl ?_
      apply SXL.andG 9
      case hl => exact rfl
      case hd => exact rfl
      case hg => exact rfl
      case ht =>
        intro c32
        have hk : k < s.reads.length := by omega
        obtain ⟨b, o, ha, hm⟩ := hs.readD hk
        refine SXL.fieldAddr fp_27_6 rfl ?_
        refine SXL.load1o 0 sh_25 rfl rfl rfl ?_
        refine SXL.move rfl ?_
        refine SXL.indexR el_25 rfl rfl ha (by omega) ?_
        refine SXL.fieldAddr fp_54_0 rfl ?_
        refine SXL.load1 sh_3 rfl ((hm _).sub (j := 0) (k := 1) rfl) ?_
        refine SXL.fieldAddr fp_54_0 rfl ?_
        refine SXL.load1o 1 sh_3 rfl rfl rfl ?_
        refine SXL.lss rfl rfl ?_
        exact SXL.nil (segQ.mk (.skip rfl (.skip rfl (.skip rfl (.skip rfl (.skip rfl (.skip rfl (.skip rfl (.skip rfl (.skip rfl (.skip rfl (EnvSub.refl _))))))))))) rfl rfl ⟨rfl, rfl⟩)
      case hf =>
        intro c32
        refine SXL.pass rfl rfl rfl ?_
        refine SXL.pass rfl rfl rfl ?_
        refine SXL.pass rfl rfl rfl ?_
        refine SXL.pass rfl rfl rfl ?_
        refine SXL.pass rfl rfl rfl ?_
        refine SXL.pass rfl rfl rfl ?_
        refine SXL.pass rfl rfl rfl ?_
        refine SXL.pass rfl rfl rfl ?_
        refine SXL.pass rfl rfl rfl ?_
        exact SXL.nil (segQ.mk (.skip rfl (.skip rfl (.skip rfl (.skip rfl (.skip rfl (.skip rfl (.skip rfl (.skip rfl (.skip rfl (.skip rfl (EnvSub.refl _))))))))))) rfl rfl rfl)
      refine SXL.nil ⟨rfl, rfl, rfl, ?_⟩
      refine SXA.done (by kernel_rfl) ?_
      refine SXL.nil ?_
      refine thenQ.normal ?_
      refine SX.condP rfl (fun c32 => ?_) (fun c32 => ?_)
      · refine SX.skip ?_
        refine thenQ.normal ?_
        refine SX.block ?_
        refine SX.region ?_
        refine SXL.move rfl ?_
        refine SXL.add rfl rfl (by omega) ?_
        refine SXL.assign rfl ?_
        refine SXL.nil ?_
        refine blockQ.normal ?_
        refine thenQ.normal ?_
        refine ⟨k + 1, Meets.mk _ ⟨rfl, trivial⟩ ⟨rfl, rfl, rfl, rfl, trivial⟩ rfl, ((asc_ins (asc_of hv) (by omega)).1 c32.2), (by omega)⟩
      · refine SX.exit ?_
        refine thenQ.exit ?_
        refine thenQ.exit ?_
        refine blockQ.exit ?_
        refine thenQ.normal ?_
        refine SX.seq ?_
        have hke : k = insN s.reads x.num := by
              rcases Nat.lt_or_ge k (insN s.reads x.num) with h | h
              · exfalso
                have h1 := insN_le s.reads x.num
                exact c32 ⟨by omega, (asc_ins (asc_of hv) (by omega)).2 h⟩
              · omega
        have hkl : k ≤ s.reads.length := by have := insN_le s.reads x.num; omega
        subst hke
        have hil := insL_len s.reads x
        refine SX.region ?_
        refine SXL.loadNo 0 sh_27 rfl rfl rfl ?_
        refine SXL.callF (SpR s) fn_17 rfl (fun w hI => twin_any s bo ro bc rc (by omega) (by omega) w (hs.inv hI)) ?_; rintro _ _ ⟨r1, r2, o1, o2, rfl, rfl⟩
        refine SXL.alloc zp_27 ?_; intro b5
        refine SXL.store 5 sz_27 rfl rfl rfl rfl rfl rfl ?_
        refine SXL.nil ?_
        refine thenQ.normal ?_
        refine SX.seq ?_
        refine SX.draw 15 (by kernel_rfl) (by kernel_rfl) ⟨[0, 1, 2, 3, 4, 5, 6, 7, 8, 9, 10, 11, 12, 13, 14, 15], [true, true, true, true, true, true, false, false, false]⟩ ?_
        refine SXA.takeM 1 4 rfl (by kernel_rfl) rfl ?_
        refine SXL.fieldAddr fp_27_6 rfl ?_
        refine SXL.load1o 0 sh_25 rfl rfl rfl ?_
        refine SXL.move rfl ?_
        refine SXL.sliceH el_25 rfl rfl (by omega) ?_
        refine SXL.nil ⟨rfl, rfl, rfl, ?_⟩
        refine SXA.takeM 6 1 rfl (by kernel_rfl) rfl ?_
        refine SXL.loadNo 1 sh_54 rfl rfl rfl ?_
        refine SXL.nil ⟨rfl, rfl, rfl, ?_⟩
        refine SXA.takeM 9 4 rfl (by kernel_rfl) rfl ?_
        refine SXL.fieldAddr fp_27_6 rfl ?_
        refine SXL.load1o 0 sh_25 rfl rfl rfl ?_
        refine SXL.move rfl ?_
        refine SXL.sliceL el_25 rfl rfl (by omega) ?_
        refine SXL.nil ⟨rfl, rfl, rfl, ?_⟩
        refine SXA.all [0, 7] (by kernel_rfl) rfl ⟨⟨?_, rfl⟩, ⟨?_, rfl⟩, trivial⟩
        · refine (show SXL _ _ [_] _ _ from ?_)
          refine SXL.buildSlice0 et_25 ?_; intro b6
          refine SXL.nil (stepQ.mk _ rfl rfl ?_)
          refine SXA.all [5, 7] (by kernel_rfl) rfl ⟨⟨?_, rfl⟩, ⟨?_, rfl⟩, trivial⟩
          · refine (show SXL _ _ [_] _ _ from ?_)
            refine SXL.appendE (some b6) ap_25 rfl rfl (srcRd (l := s.reads.take (insN s.reads x.num)) (by rw [List.map_take]; exact hs.reads.cutH _ _) (by rw [List.length_take]; exact Nat.min_eq_left hkl) _) (by rw [rdC_len', List.length_take, Nat.min_eq_left hkl]; rfl) (rdC_one' _) ⟨by show insN s.reads x.num ≤ maxLen; simp only [maxLen]; omega, by show insN s.reads x.num * _ ≤ _; omega⟩ ?_; intro r_42 o_42
            refine SXL.nil (stepQ.mkL _ (by kernel_rfl) rfl rfl ?_)
            refine SXA.all [7] (by kernel_rfl) rfl ⟨⟨?_, rfl⟩, trivial⟩
            refine (show SXL _ _ [_] _ _ from ?_)
            refine SXL.buildSlice et_25 zp_54 rfl rfl rfl rfl ?_; intro b8
            refine SXL.nil (stepQ.mk _ rfl rfl ?_)
            refine SXA.all [8] (by kernel_rfl) rfl ⟨⟨?_, rfl⟩, trivial⟩
            refine (show SXL _ _ [_] _ _ from ?_)
            refine SXL.append 7 ap_25 rfl rfl o_42 rfl (.inr ⟨_, _, rfl, Mem.own (i := 8) (l := x.cells) rfl (takeAt_all x.cells)⟩) rfl rfl ⟨by show insN s.reads x.num + 1 ≤ maxLen; simp only [maxLen]; omega, by show (insN s.reads x.num + 1) * _ ≤ _; omega⟩ ?_; intro r_45 o_45
            refine SXL.nil (stepQ.mkL _ (by kernel_rfl) rfl rfl ?_)
            refine SXA.all [13] (by kernel_rfl) rfl ⟨⟨?_, rfl⟩, trivial⟩
            refine (show SXL _ _ [_] _ _ from ?_)
            refine SXL.append 7 ap_25 rfl rfl o_45 rfl (srcRd (l := s.reads.drop (insN s.reads x.num)) (by rw [List.map_drop]; exact hs.reads.cutL (by rw [List.length_map]; exact hrc)) (by rw [List.length_drop]; rfl) _) (by rw [rdC_len', List.length_drop]; rfl) (rdC_one' _) ⟨by show insN s.reads x.num + 1 + (s.reads.length - insN s.reads x.num) ≤ maxLen; simp only [maxLen]; omega, by show (insN s.reads x.num + 1 + (s.reads.length - insN s.reads x.num)) * _ ≤ _; omega⟩ ?_; intro r_50 o_50
            rw [Int.toNat_natCast (insN s.reads x.num)] at o_50 ⊢
            rw [show insN s.reads x.num + 1 + (s.reads.length - insN s.reads x.num) = (insL s.reads x).length from by omega, ← rdC_ins s.reads x] at o_50 ⊢
            refine SXL.nil (stepQ.mkL _ (by kernel_rfl) rfl rfl ?_)
            refine SXA.takeM 14 1 rfl (by kernel_rfl) rfl ?_
            refine SXL.fieldAddr fp_27_6 rfl ?_
            refine SXL.nil ⟨rfl, rfl, rfl, ?_⟩
            refine SXA.done (by kernel_rfl) ?_
            refine SXL.store 5 sz_25 rfl rfl rfl rfl rfl rfl ?_
            refine SXL.nil ?_
            refine thenQ.normal ?_
            refine SX.seq ?_
            refine SX.seq ?_
            refine SX.region ?_
            refine SXL.loadNo 5 sh_27 rfl rfl rfl ?_
            refine SXL.call1 (.bool (decide (SpP (insS s x)))) fn_74 rfl (fun w hI => spring_any (insS s x) r1.addr r_50.addr r1.cap r_50.cap _ (spAtOwn (s := (insS s x)) hI o1 o_50 (i := 3) (j := 7) rfl rfl)) ?_
            refine SXL.not rfl ?_
            refine SXL.nil ?_
            refine thenQ.normal ?_
            refine SX.condP rfl (fun c54 => ?_) (fun c54 => ?_)
            · refine SX.seq ?_
              refine SX.region ?_
              refine SXL.buildS pl_27 zp_27 rfl rfl ?_
              refine SXL.store 2 sz_27 rfl rfl rfl rfl rfl rfl ?_
              refine SXL.assign rfl ?_
              refine SXL.nil ?_
              refine thenQ.normal ?_
              refine SX.ret ?_
              refine thenQ.ret ?_
              refine retQ.dead [Sl.nil.ent 61 [], Sl.nil.ent 54 []] rfl ?_
              refine retQ.two (ResAt.cellNo 2 sh_27 rfl rfl rfl) (ResAt.tmp rfl) ?_
              have he : addE s x = 12 := by rw [addE, if_neg (not_not_intro hv), if_neg (by omega), if_pos c54]
              rw [add_bad he (by omega), he]; exact SpE.zero _
            · refine SX.skip ?_
              refine thenQ.normal ?_
              refine SX.seq ?_
              refine SX.region ?_
              refine SXL.loadNo 5 sh_27 rfl rfl rfl ?_
              refine SXL.store 2 sz_27 rfl rfl rfl rfl rfl rfl ?_
              refine SXL.assign rfl ?_
              refine SXL.nil ?_
              refine thenQ.normal ?_
              refine SX.ret ?_
              refine retQ.sel [3, 7] rfl rfl ?_
              refine retQ.two (ResAt.cellNo 2 sh_27 rfl rfl rfl) (ResAt.tmp rfl) ?_
              have he : addE s x = 0 := by rw [addE, if_neg (not_not_intro hv), if_neg (by omega), if_neg c54]
              rw [add_ok he, he]; exact ⟨r1, r_50, o1, o_50, rfl, rfl⟩
          · refine (show SXL _ _ [_] _ _ from ?_)
            refine SXL.buildSlice et_25 zp_54 rfl rfl rfl rfl ?_; intro b7
            refine SXL.nil (stepQ.mk _ rfl rfl ?_)
            refine SXA.all [5] (by kernel_rfl) rfl ⟨⟨?_, rfl⟩, trivial⟩
            refine (show SXL _ _ [_] _ _ from ?_)
            refine SXL.appendE (some b6) ap_25 rfl rfl (srcRd (l := s.reads.take (insN s.reads x.num)) (by rw [List.map_take]; exact hs.reads.cutH _ _) (by rw [List.length_take]; exact Nat.min_eq_left hkl) _) (by rw [rdC_len', List.length_take, Nat.min_eq_left hkl]; rfl) (rdC_one' _) ⟨by show insN s.reads x.num ≤ maxLen; simp only [maxLen]; omega, by show insN s.reads x.num * _ ≤ _; omega⟩ ?_; intro r_42 o_42
            refine SXL.nil (stepQ.mkL _ (by kernel_rfl) rfl rfl ?_)
            refine SXA.all [8] (by kernel_rfl) rfl ⟨⟨?_, rfl⟩, trivial⟩
            refine (show SXL _ _ [_] _ _ from ?_)
            refine SXL.append 8 ap_25 rfl rfl o_42 rfl (.inr ⟨_, _, rfl, Mem.own (i := 7) (l := x.cells) rfl (takeAt_all x.cells)⟩) rfl rfl ⟨by show insN s.reads x.num + 1 ≤ maxLen; simp only [maxLen]; omega, by show (insN s.reads x.num + 1) * _ ≤ _; omega⟩ ?_; intro r_45 o_45
            refine SXL.nil (stepQ.mkL _ (by kernel_rfl) rfl rfl ?_)
            refine SXA.all [13] (by kernel_rfl) rfl ⟨⟨?_, rfl⟩, trivial⟩
            refine (show SXL _ _ [_] _ _ from ?_)
            refine SXL.append 8 ap_25 rfl rfl o_45 rfl (srcRd (l := s.reads.drop (insN s.reads x.num)) (by rw [List.map_drop]; exact hs.reads.cutL (by rw [List.length_map]; exact hrc)) (by rw [List.length_drop]; rfl) _) (by rw [rdC_len', List.length_drop]; rfl) (rdC_one' _) ⟨by show insN s.reads x.num + 1 + (s.reads.length - insN s.reads x.num) ≤ maxLen; simp only [maxLen]; omega, by show (insN s.reads x.num + 1 + (s.reads.length - insN s.reads x.num)) * _ ≤ _; omega⟩ ?_; intro r_50 o_50
            rw [Int.toNat_natCast (insN s.reads x.num)] at o_50 ⊢
            rw [show insN s.reads x.num + 1 + (s.reads.length - insN s.reads x.num) = (insL s.reads x).length from by omega, ← rdC_ins s.reads x] at o_50 ⊢
            refine SXL.nil (stepQ.mkL _ (by kernel_rfl) rfl rfl ?_)
            refine SXA.takeM 14 1 rfl (by kernel_rfl) rfl ?_
            refine SXL.fieldAddr fp_27_6 rfl ?_
            refine SXL.nil ⟨rfl, rfl, rfl, ?_⟩
            refine SXA.done (by kernel_rfl) ?_
            refine SXL.store 5 sz_25 rfl rfl rfl rfl rfl rfl ?_
            refine SXL.nil ?_
            refine thenQ.normal ?_
            refine SX.seq ?_
            refine SX.seq ?_
            refine SX.region ?_
            refine SXL.loadNo 5 sh_27 rfl rfl rfl ?_
            refine SXL.call1 (.bool (decide (SpP (insS s x)))) fn_74 rfl (fun w hI => spring_any (insS s x) r1.addr r_50.addr r1.cap r_50.cap _ (spAtOwn (s := (insS s x)) hI o1 o_50 (i := 3) (j := 8) rfl rfl)) ?_
            refine SXL.not rfl ?_
            refine SXL.nil ?_
            refine thenQ.normal ?_
            refine SX.condP rfl (fun c54 => ?_) (fun c54 => ?_)
            · refine SX.seq ?_
              refine SX.region ?_
              refine SXL.buildS pl_27 zp_27 rfl rfl ?_
              refine SXL.store 2 sz_27 rfl rfl rfl rfl rfl rfl ?_
              refine SXL.assign rfl ?_
              refine SXL.nil ?_
              refine thenQ.normal ?_
              refine SX.ret ?_
              refine thenQ.ret ?_
              refine retQ.dead [Sl.nil.ent 61 [], Sl.nil.ent 54 []] rfl ?_
              refine retQ.two (ResAt.cellNo 2 sh_27 rfl rfl rfl) (ResAt.tmp rfl) ?_
              have he : addE s x = 12 := by rw [addE, if_neg (not_not_intro hv), if_neg (by omega), if_pos c54]
              rw [add_bad he (by omega), he]; exact SpE.zero _
            · refine SX.skip ?_
              refine thenQ.normal ?_
              refine SX.seq ?_
              refine SX.region ?_
              refine SXL.loadNo 5 sh_27 rfl rfl rfl ?_
              refine SXL.store 2 sz_27 rfl rfl rfl rfl rfl rfl ?_
              refine SXL.assign rfl ?_
              refine SXL.nil ?_
              refine thenQ.normal ?_
              refine SX.ret ?_
              refine retQ.sel [3, 8] rfl rfl ?_
              refine retQ.two (ResAt.cellNo 2 sh_27 rfl rfl rfl) (ResAt.tmp rfl) ?_
              have he : addE s x = 0 := by rw [addE, if_neg (not_not_intro hv), if_neg (by omega), if_neg c54]
              rw [add_ok he, he]; exact ⟨r1, r_50, o1, o_50, rfl, rfl⟩
        · refine (show SXL _ _ [_] _ _ from ?_)
          refine SXL.buildSlice et_25 zp_54 rfl rfl rfl rfl ?_; intro b6
          refine SXL.nil (stepQ.mk _ rfl rfl ?_)
          refine SXA.all [0] (by kernel_rfl) rfl ⟨⟨?_, rfl⟩, trivial⟩
          refine (show SXL _ _ [_] _ _ from ?_)
          refine SXL.buildSlice0 et_25 ?_; intro b7
          refine SXL.nil (stepQ.mk _ rfl rfl ?_)
          refine SXA.all [5] (by kernel_rfl) rfl ⟨⟨?_, rfl⟩, trivial⟩
          refine (show SXL _ _ [_] _ _ from ?_)
          refine SXL.appendE (some b7) ap_25 rfl rfl (srcRd (l := s.reads.take (insN s.reads x.num)) (by rw [List.map_take]; exact hs.reads.cutH _ _) (by rw [List.length_take]; exact Nat.min_eq_left hkl) _) (by rw [rdC_len', List.length_take, Nat.min_eq_left hkl]; rfl) (rdC_one' _) ⟨by show insN s.reads x.num ≤ maxLen; simp only [maxLen]; omega, by show insN s.reads x.num * _ ≤ _; omega⟩ ?_; intro r_42 o_42
          refine SXL.nil (stepQ.mkL _ (by kernel_rfl) rfl rfl ?_)
          refine SXA.all [8] (by kernel_rfl) rfl ⟨⟨?_, rfl⟩, trivial⟩
          refine (show SXL _ _ [_] _ _ from ?_)
          refine SXL.append 8 ap_25 rfl rfl o_42 rfl (.inr ⟨_, _, rfl, Mem.own (i := 6) (l := x.cells) rfl (takeAt_all x.cells)⟩) rfl rfl ⟨by show insN s.reads x.num + 1 ≤ maxLen; simp only [maxLen]; omega, by show (insN s.reads x.num + 1) * _ ≤ _; omega⟩ ?_; intro r_45 o_45
          refine SXL.nil (stepQ.mkL _ (by kernel_rfl) rfl rfl ?_)
          refine SXA.all [13] (by kernel_rfl) rfl ⟨⟨?_, rfl⟩, trivial⟩
          refine (show SXL _ _ [_] _ _ from ?_)
          refine SXL.append 8 ap_25 rfl rfl o_45 rfl (srcRd (l := s.reads.drop (insN s.reads x.num)) (by rw [List.map_drop]; exact hs.reads.cutL (by rw [List.length_map]; exact hrc)) (by rw [List.length_drop]; rfl) _) (by rw [rdC_len', List.length_drop]; rfl) (rdC_one' _) ⟨by show insN s.reads x.num + 1 + (s.reads.length - insN s.reads x.num) ≤ maxLen; simp only [maxLen]; omega, by show (insN s.reads x.num + 1 + (s.reads.length - insN s.reads x.num)) * _ ≤ _; omega⟩ ?_; intro r_50 o_50
          rw [Int.toNat_natCast (insN s.reads x.num)] at o_50 ⊢
          rw [show insN s.reads x.num + 1 + (s.reads.length - insN s.reads x.num) = (insL s.reads x).length from by omega, ← rdC_ins s.reads x] at o_50 ⊢
          refine SXL.nil (stepQ.mkL _ (by kernel_rfl) rfl rfl ?_)
          refine SXA.takeM 14 1 rfl (by kernel_rfl) rfl ?_
          refine SXL.fieldAddr fp_27_6 rfl ?_
          refine SXL.nil ⟨rfl, rfl, rfl, ?_⟩
          refine SXA.done (by kernel_rfl) ?_
          refine SXL.store 5 sz_25 rfl rfl rfl rfl rfl rfl ?_
          refine SXL.nil ?_
          refine thenQ.normal ?_
          refine SX.seq ?_
          refine SX.seq ?_
          refine SX.region ?_
          refine SXL.loadNo 5 sh_27 rfl rfl rfl ?_
          refine SXL.call1 (.bool (decide (SpP (insS s x)))) fn_74 rfl (fun w hI => spring_any (insS s x) r1.addr r_50.addr r1.cap r_50.cap _ (spAtOwn (s := (insS s x)) hI o1 o_50 (i := 3) (j := 8) rfl rfl)) ?_
          refine SXL.not rfl ?_
          refine SXL.nil ?_
          refine thenQ.normal ?_
          refine SX.condP rfl (fun c54 => ?_) (fun c54 => ?_)
          · refine SX.seq ?_
            refine SX.region ?_
            refine SXL.buildS pl_27 zp_27 rfl rfl ?_
            refine SXL.store 2 sz_27 rfl rfl rfl rfl rfl rfl ?_
            refine SXL.assign rfl ?_
            refine SXL.nil ?_
            refine thenQ.normal ?_
            refine SX.ret ?_
            refine thenQ.ret ?_
            refine retQ.dead [Sl.nil.ent 61 [], Sl.nil.ent 54 []] rfl ?_
            refine retQ.two (ResAt.cellNo 2 sh_27 rfl rfl rfl) (ResAt.tmp rfl) ?_
            have he : addE s x = 12 := by rw [addE, if_neg (not_not_intro hv), if_neg (by omega), if_pos c54]
            rw [add_bad he (by omega), he]; exact SpE.zero _
          · refine SX.skip ?_
            refine thenQ.normal ?_
            refine SX.seq ?_
            refine SX.region ?_
            refine SXL.loadNo 5 sh_27 rfl rfl rfl ?_
            refine SXL.store 2 sz_27 rfl rfl rfl rfl rfl rfl ?_
            refine SXL.assign rfl ?_
            refine SXL.nil ?_
            refine thenQ.normal ?_
            refine SX.ret ?_
            refine retQ.sel [3, 8] rfl rfl ?_
            refine retQ.two (ResAt.cellNo 2 sh_27 rfl rfl rfl) (ResAt.tmp rfl) ?_
            have he : addE s x = 0 := by rw [addE, if_neg (not_not_intro hv), if_neg (by omega), if_neg c54]
            rw [add_ok he, he]; exact ⟨r1, r_50, o1, o_50, rfl, rfl⟩
end Go.Proofs.YtknflipongbngaaDoor

/- A reading struck and put back; springs with fewer truths. Nothing of Go stands here. -/
namespace Go.S
open Go.X (G)
/-! ### fewer truths -/
/-- All truths of one spring are the other's. -/
structure Less (s' s : Sp) : Prop where
  weeks : s'.weeks = s.weeks
  sub : ∀ r t, Wi r s'.w0 s'.w1 → Truth s' r t → Wi r s.w0 s.w1 ∧ Truth s r t
/-! ### readings and lines more -/
/-! ### a reading struck and put back -/
/-! ### what a reading tells alone -/
/-! ### a number that no reading has -/
def nextTo (l : List Rd) : Nat → Int
  | 0 => 1
  | k + 1 => if (l.getD k default).num = nextTo l k then nextTo l k + 1 else nextTo l k
def nextN (s : Sp) : Int := nextTo s.reads s.reads.length
end Go.S

/- SpringRests: the walk. -/
namespace Go.Proofs.YtknflipongbngaaDoor
open Go.X Go.S Go.RowKit
end Go.Proofs.YtknflipongbngaaDoor

/- SpringMore: the walk. -/
namespace Go.Proofs.YtknflipongbngaaDoor
open Go.X Go.S Go.RowKit
end Go.Proofs.YtknflipongbngaaDoor

/- Both ends of what is told come about. Nothing of Go stands here. -/
namespace Go.S
open Go.X (G)
/-- A rain, and what is given week by week, are a truth. -/
def HoldsP (s : Sp) (rain : Int) (l : List Int) : Prop := (l.length = s.weeks.toNat ∧ Wi rain s.w0 s.w1) ∧ TruthTo s rain l s.weeks.toNat
/-- One rain, of which it is told what it gives in a week. -/
def onlyB (s : Sp) (rain : Int) : List Ln := s.book.filter fun x => decide (Wi rain x.r0 x.r1)
def onlyS (s : Sp) (rain wk n : Int) : Sp := { s with w0 := rain, w1 := rain, book := onlyB s rain ++ [⟨rain, rain, wk, n, n⟩] }
/-- One rain. -/
def oneR (s : Sp) (rain : Int) : Sp := { s with w0 := rain, w1 := rain }
/-- With some rain of the first ones it comes about. -/
def orTo (s : Sp) (k : Nat) (n : Int) : Nat → Prop
  | 0 => False
  | j + 1 => orTo s k n j ∨ TrueP (onlyS s (s.w0 + (j : Int)) k n)
instance orDec (s : Sp) (k : Nat) (n : Int) : ∀ j, Decidable (orTo s k n j)
  | 0 => inferInstanceAs (Decidable False)
  | j + 1 => @instDecidableOr _ _ (orDec s k n j) (inferInstanceAs (Decidable (TrueP (onlyS s (s.w0 + (j : Int)) k n))))
/-! ### the truths that are told -/
/-! ### the rains -/
end Go.S

/- One rain, and what holds: the walks. -/
namespace Go.Proofs.YtknflipongbngaaDoor
open Go.X Go.S Go.RowKit
def lnC (l : List Ln) : List Value := (l.map Ln.cells).flatten
abbrev rainP (rain : Int) : Ln → Bool := fun x => decide (Wi rain x.r0 x.r1)
end Go.Proofs.YtknflipongbngaaDoor

/- SpringEnds: the walk. -/
namespace Go.Proofs.YtknflipongbngaaDoor
open Go.X Go.S Go.RowKit
end Go.Proofs.YtknflipongbngaaDoor

/- The package's table of checks alone; Check, Strike, Write, Add over it. -/
namespace Go.Proofs.YtknflipongbngaaDoor
open Go.X Go.S Go.RowKit
/-- What the table of checks holds. -/
structure Gc (w : World) : Prop where
  checks : ∀ j v, chkCells[j]? = some v → w.cell? ⟨0, 0 + j, none⟩ = some v
theorem Gc.inv {w0 w : World} {own : X.Own} (h : Gc w0) (hI : Inv w0 own w) : Gc w := ⟨fun j v hj => cell_keep (h.checks j v hj) hI.below⟩
theorem Gc.memC {w : World} (h : Gc w) (own : X.Own) : Mem w own 0 0 chkCells := Mem.out h.checks
theorem scheckC_any (s : Sp) (bo ro : Option Addr) (bc rc : Nat) (hb : s.book.length ≤ 1000000) (hr : s.reads.length ≤ 1000000) (w : World) (hg : Gc w) (hs : SpAt w s bo ro) :
    CallsR Tryd.prog 26 [.agg ⟨[.int .i64 s.weeks, .int .i64 s.most, .int .i64 s.fall, .int .i64 s.a0, .int .i64 s.a1, .int .i64 s.w0, .int .i64 s.w1, (.slice bo s.book.length bc), (.slice ro s.reads.length rc)]⟩] w (fun v _ => v = .int .i64 (if SpP s then 0 else 10)) := by
  refine CallsR.of_SX (n := 15) (rs := [.tmp 2]) Tryd.func26 rfl rfl rfl rfl ?_
  show SX _ _ _ ⟨[(0, .agg ⟨[.int .i64 s.weeks, .int .i64 s.most, .int .i64 s.fall, .int .i64 s.a0, .int .i64 s.a1, .int .i64 s.w0, .int .i64 s.w1, (.slice bo s.book.length bc), (.slice ro s.reads.length rc)]⟩)], [], []⟩
  refine SX.seq ?_
  refine SX.region ?_
  refine SXL.box rfl rfl ?_; intro b0
  refine SXL.assign rfl ?_
  refine SXL.nil ?_
  refine thenQ.normal ?_
  refine SX.seq ?_
  refine SX.seq ?_
  refine SX.region ?_
  refine SXL.loadN sh_131 rfl (hg.memC _) rfl ?_
  refine SXL.move rfl ?_
  refine SXL.nil ?_
  refine thenQ.normal ?_
  refine SX.block ?_
  refine SX.loopG (α := Nat) [1, 2, 5] rfl (fun k => [(6, .int .i64 ((k : Int)))]) (fun k => []) (fun k => k ≤ 5 ∧ ∀ i, i < k → ckP s i) (fun k => 5 - k) 0 ⟨Nat.zero_le _, fun _ h => absurd h (Nat.not_lt_zero _)⟩ ⟨rfl, trivial⟩ rfl ?_
  rintro k ⟨hk, hall⟩
  refine SX.seq ?_
  refine SX.region ?_
  refine SXL.lss rfl rfl ?_
  refine SXL.nil ?_
  refine thenQ.normal ?_
  refine SX.seq ?_
  refine SX.condP rfl (fun c7 => ?_) (fun c7 => ?_)
  · refine SX.skip ?_
    refine thenQ.normal ?_
    refine SX.seq ?_
    refine SX.block ?_
    refine SX.seq ?_
    refine SX.region ?_
    refine SXL.indexV ae_131 sh_130 rfl rfl (by omega) (chk_take k (by omega)) ?_
    refine SXL.alloc zp_130 ?_; intro b1
    refine SXL.store 1 sz_130 rfl rfl rfl rfl rfl rfl ?_
    refine SXL.nil ?_
    refine thenQ.normal ?_
    refine SX.seq ?_
    refine SX.region ?_
    refine SXL.fieldAddr fp_130_0 rfl ?_
    refine SXL.load1o 1 sh_28 rfl rfl rfl ?_
    refine SXL.loadNo 0 sh_27 rfl rfl rfl ?_
    refine SXL.call1V (.bool (decide (ckP s k))) (fn_chk k (by omega)) rfl rfl (fun w hI => chk_any s bo ro bc rc k (by omega) hall hb hr w (hs.inv hI)) ?_
    refine SXL.not rfl ?_
    refine SXL.nil ?_
    refine thenQ.normal ?_
    refine SX.condP rfl (fun c13 => ?_) (fun c13 => ?_)
    · refine SX.seq ?_
      refine SX.region ?_
      refine SXL.assign rfl ?_
      refine SXL.nil ?_
      refine thenQ.normal ?_
      refine SX.ret ?_
      refine blockQ.ret ?_
      refine thenQ.ret ?_
      refine thenQ.ret ?_
      refine blockQ.ret ?_
      refine thenQ.ret ?_
      refine retQ.one (ResAt.tmp rfl) ?_
      rw [if_neg (fun h => c13 ((ck_iff s).1 h k (by omega)))]
    · refine SX.skip ?_
      refine blockQ.normal ?_
      refine thenQ.normal ?_
      refine SX.region ?_
      refine SXL.add rfl rfl (by omega) ?_
      refine SXL.move rfl ?_
      refine SXL.nil ?_
      refine thenQ.normal ?_
      refine ⟨k + 1, Meets.mk _ ⟨rfl, trivial⟩ ⟨rfl, rfl, rfl, trivial⟩ rfl, ?_, (by omega)⟩
      refine ⟨by omega, fun i hi => ?_⟩
      by_cases e : i = k
      · subst e; exact Decidable.not_not.1 c13
      · exact hall i (by omega)
  · refine SX.exit ?_
    refine thenQ.exit ?_
    refine thenQ.exit ?_
    refine blockQ.exit ?_
    refine thenQ.normal ?_
    refine SX.seq ?_
    refine SX.region ?_
    refine SXL.assign rfl ?_
    refine SXL.nil ?_
    refine thenQ.normal ?_
    refine SX.ret ?_
    refine retQ.one (ResAt.tmp rfl) ?_
    rw [if_pos ((ck_iff s).2 fun i hi => hall i (by omega))]
set_option maxHeartbeats 2000000 in
theorem sstrikeC_any (s : Sp) (bo ro : Option Addr) (bc rc : Nat) (ns : List Int) (ao : Option Addr) (nc : Nat) (hn : ns.length ≤ 1000000) (hb : s.book.length ≤ 1000000) (hr : s.reads.length ≤ 1000000) (w : World) (hg : Gc w) (hs : SpAt w s bo ro) (ha0 : RowsAt w ao 1 (ones ns)) :
    CallsR Tryd.prog 40 [.agg ⟨[.int .i64 s.weeks, .int .i64 s.most, .int .i64 s.fall, .int .i64 s.a0, .int .i64 s.a1, .int .i64 s.w0, .int .i64 s.w1, (.slice bo s.book.length bc), (.slice ro s.reads.length rc)]⟩, .slice ao ns.length nc] w (SpE (strikeS s ns) (strikeE s ns)) := by
  refine CallsR.of_SX (n := 38) (rs := [.cell 4 27, .tmp 5]) Tryd.func40 rfl rfl rfl rfl ?_
  show SX _ _ _ ⟨[(0, .agg ⟨[.int .i64 s.weeks, .int .i64 s.most, .int .i64 s.fall, .int .i64 s.a0, .int .i64 s.a1, .int .i64 s.w0, .int .i64 s.w1, (.slice bo s.book.length bc), (.slice ro s.reads.length rc)]⟩), (1, .slice ao ns.length nc)], [], []⟩
  refine SX.seq ?_
  refine SX.region ?_
  refine SXL.box rfl rfl ?_; intro b0
  refine SXL.alloc zp_27 ?_; intro b1
  refine SXL.assign rfl ?_
  refine SXL.nil ?_
  refine thenQ.normal ?_
  refine SX.seq ?_
  refine SX.seq ?_
  refine SX.region ?_
  refine SXL.loadNo 0 sh_27 rfl rfl rfl ?_
  refine SXL.call1 (.int .i64 (if SpP s then 0 else 10)) fn_26 rfl (fun w hI => scheckC_any s bo ro bc rc hb hr _ (hg.inv hI) (hs.inv hI)) ?_
  refine SXL.assign rfl ?_
  refine SXL.nil ?_
  refine thenQ.normal ?_
  refine SX.seq ?_
  refine SX.region ?_
  refine SXL.move rfl ?_
  refine SXL.neqI rfl rfl ?_
  refine SXL.nil ?_
  refine thenQ.normal ?_
  refine SX.condP rfl (fun c13 => ?_) (fun c13 => ?_)
  · refine SX.seq ?_
    have hv : ¬SpP s := fun h => c13 (by rw [if_pos h])
    refine SX.region ?_
    refine SXL.buildS pl_27 zp_27 rfl rfl ?_
    refine SXL.move rfl ?_
    refine SXL.store 1 sz_27 rfl rfl rfl rfl rfl rfl ?_
    refine SXL.assign rfl ?_
    refine SXL.nil ?_
    refine thenQ.normal ?_
    refine SX.ret ?_
    refine thenQ.ret ?_
    refine retQ.dead [Sl.nil.ent 61 [], Sl.nil.ent 54 []] rfl ?_
    refine retQ.two (ResAt.cellNo 1 sh_27 rfl rfl rfl) (ResAt.tmp rfl) ?_
    rw [if_neg hv]
    have he : strikeE s ns = 10 := by rw [strikeE, if_pos hv]
    rw [strike_bad he (by omega), he]; exact SpE.zero _
  · refine SX.skip ?_
    refine thenQ.normal ?_
    refine SX.seq ?_
    have hv : SpP s := Decidable.byContradiction fun h => c13 (by rw [if_neg h]; omega)
    have hH := hv.1
    unfold HeadP at hH
    have hnl := length_numsL s
    refine SX.region ?_
    refine SXL.assign rfl ?_
    refine SXL.nil ?_
    refine thenQ.normal ?_
    refine SX.seq ?_
    refine SX.seq ?_
    refine SX.region ?_
    refine SXL.move rfl ?_
    refine SXL.len is_35 rfl ?_
    refine SXL.move rfl ?_
    refine SXL.nil ?_
    refine thenQ.normal ?_
    refine SX.block ?_
    refine SX.loopG (α := Nat) [1, 2, 4, 5, 16, 17] rfl (fun j => [(18, .int .i64 ((j : Int))), (7, .int .i64 ((lastOf ns j)))]) (fun j => []) (fun j => j ≤ ns.length ∧ StrikeTo s ns j) (fun j => ns.length - j) 0 ⟨Nat.zero_le _, fun i h => absurd h (Nat.not_lt_zero _)⟩ ⟨rfl, rfl, trivial⟩ rfl ?_
    rintro j ⟨hjl, hall⟩
    refine SX.seq ?_
    refine SX.region ?_
    refine SXL.lss rfl rfl ?_
    refine SXL.nil ?_
    refine thenQ.normal ?_
    refine SX.seq ?_
    refine SX.condP rfl (fun c2 => ?_) (fun c2 => ?_)
    · refine SX.skip ?_
      refine thenQ.normal ?_
      refine SX.seq ?_
      refine SX.block ?_
      refine SX.seq ?_
      have hj : j < ns.length := by omega
      obtain ⟨b, o, ha, hm⟩ := oneI ha0 hj
      refine SX.region ?_
      refine SXL.indexR el_35 rfl rfl ha (by omega) ?_
      refine SXL.load1 sh_3 rfl (hm _) ?_
      refine SXL.assign rfl ?_
      refine SXL.nil ?_
      refine thenQ.normal ?_
      refine SX.seq ?_
      refine SX.seq ?_
      refine SX.region ?_
      refine SXL.move rfl ?_
      refine SXL.move rfl ?_
      refine SXL.leq rfl rfl ?_
      refine SXL.move rfl ?_
      apply SXL.orG 5
      case hl => exact rfl
      case hd => exact rfl
      case hg => exact rfl
      case ht =>
        intro c31
        refine SXL.pass rfl rfl rfl ?_
        refine SXL.pass rfl rfl rfl ?_
        refine SXL.pass rfl rfl rfl ?_
        refine SXL.pass rfl rfl rfl ?_
        refine SXL.pass rfl rfl rfl ?_
        exact SXL.nil (segQ.mk (.skip rfl (.skip rfl (.skip rfl (.skip rfl (.skip rfl (.skip rfl (EnvSub.refl _))))))) rfl rfl rfl)
      case hf =>
        intro c31
        refine SXL.loadNo 0 sh_27 rfl rfl rfl ?_
        refine SXL.callF (IsI (numsL s)) fn_83 rfl (fun w hI => numbers_any s bo ro bc rc hb hr w (hs.inv hI)) ?_; rintro _ _ ⟨q0, o0, rfl, rfl⟩
        refine SXL.move rfl ?_
        refine SXL.call1 (.bool (decide ((ns.getD j 0) ∈ numsL s))) fn_93 rfl (fun w hI => containsInts (numsL s) (ns.getD j 0) q0.addr q0.cap (by omega) _ (slOnes hI o0 (i := 2) rfl)) ?_
        refine SXL.not rfl ?_
        exact SXL.ownPre (SXL.nil (segQ.mk (.skip rfl (.skip rfl (.skip rfl (.skip rfl (.skip rfl (.skip rfl (EnvSub.refl _))))))) rfl rfl ⟨rfl, rfl⟩)) rfl
      refine SXL.nil ?_
      refine thenQ.normal ?_
      refine SX.condP rfl (fun c31 => ?_) (fun c31 => ?_)
      · refine SX.seq ?_
        refine SX.region ?_
        refine SXL.buildS pl_27 zp_27 rfl rfl ?_
        refine SXL.store 1 sz_27 rfl rfl rfl rfl rfl rfl ?_
        refine SXL.assign rfl ?_
        refine SXL.nil ?_
        refine thenQ.normal ?_
        refine SX.ret ?_
        refine thenQ.ret ?_
        refine blockQ.ret ?_
        refine thenQ.ret ?_
        refine thenQ.ret ?_
        refine blockQ.ret ?_
        refine thenQ.ret ?_
        refine retQ.dead [Sl.nil.ent 61 [], Sl.nil.ent 54 []] rfl ?_
        refine retQ.two (ResAt.cellNo 1 sh_27 rfl rfl rfl) (ResAt.tmp rfl) ?_
        have he : strikeE s ns = 12 := by rw [strikeE, if_neg (not_not_intro hv), if_pos (lastOf_bad hv hj c31)]
        rw [strike_bad he (by omega), he]; exact SpE.zero _
      · refine SX.skip ?_
        refine thenQ.normal ?_
        refine SX.region ?_
        refine SXL.move rfl ?_
        refine SXL.assign rfl ?_
        refine SXL.nil ?_
        refine blockQ.normal ?_
        refine thenQ.normal ?_
        refine SX.region ?_
        refine SXL.add rfl rfl (by omega) ?_
        refine SXL.move rfl ?_
        refine SXL.nil ?_
        refine thenQ.normal ?_
        refine ⟨j + 1, Meets.mk _ ⟨rfl, congrArg (fun z => some (Value.int .i64 z)) (show ns.getD j 0 = lastOf ns (j + 1) from by rw [lastOf, if_neg (by omega), Nat.add_sub_cancel]), trivial⟩ ⟨rfl, rfl, rfl, rfl, rfl, rfl, trivial⟩ rfl, ⟨by omega, hall.next (lastOf_next c31).2 (lastOf_lt (lastOf_next c31).1)⟩, (by omega)⟩
    · refine SX.exit ?_
      refine thenQ.exit ?_
      refine thenQ.exit ?_
      refine blockQ.exit ?_
      refine thenQ.normal ?_
      refine SX.seq ?_
      obtain rfl : j = ns.length := by omega
      refine SX.region ?_
      refine SXL.loadNo 0 sh_27 rfl rfl rfl ?_
      refine SXL.move rfl ?_
      refine SXL.callF (SpR (wo s ns)) fn_84 rfl (fun w hI => swithout_any s bo ro bc rc ns ao nc hn hb hr (nums_nodup hv.2.2) w (hs.inv hI) (ha0.inv hI)) ?_; rintro _ _ ⟨r1, r2, o1, o2, rfl, rfl⟩
      refine SXL.store 1 sz_27 rfl rfl rfl rfl rfl rfl ?_
      refine SXL.assign rfl ?_
      refine SXL.nil ?_
      refine thenQ.normal ?_
      refine SX.ret ?_
      refine retQ.sel [2, 3] rfl rfl ?_
      refine retQ.two (ResAt.cellNo 1 sh_27 rfl rfl rfl) (ResAt.tmp rfl) ?_
      have he : strikeE s ns = 0 := by rw [strikeE, if_neg (not_not_intro hv), if_neg (not_not_intro hall.all)]
      rw [strike_ok he, he]; exact ⟨r1, r2, o1, o2, rfl, rfl⟩
set_option maxHeartbeats 2000000 in
theorem swriteC_any (s : Sp) (bo ro : Option Addr) (bc rc : Nat) (y : Ln) (hb : s.book.length ≤ 1000000) (hr : s.reads.length ≤ 1000000) (w : World) (hg : Gc w) (hs : SpAt w s bo ro) :
    CallsR Tryd.prog 38 [.agg ⟨[.int .i64 s.weeks, .int .i64 s.most, .int .i64 s.fall, .int .i64 s.a0, .int .i64 s.a1, .int .i64 s.w0, .int .i64 s.w1, (.slice bo s.book.length bc), (.slice ro s.reads.length rc)]⟩, .agg ⟨y.cells⟩] w (SpE (writeS s y) (writeE s y)) := by
  refine CallsR.of_SX (n := 31) (rs := [.cell 4 27, .tmp 5]) Tryd.func38 rfl rfl rfl rfl ?_
  show SX _ _ _ ⟨[(0, .agg ⟨[.int .i64 s.weeks, .int .i64 s.most, .int .i64 s.fall, .int .i64 s.a0, .int .i64 s.a1, .int .i64 s.w0, .int .i64 s.w1, (.slice bo s.book.length bc), (.slice ro s.reads.length rc)]⟩), (1, .agg ⟨y.cells⟩)], [], []⟩
  refine SX.seq ?_
  refine SX.region ?_
  refine SXL.box rfl rfl ?_; intro b0
  refine SXL.box rfl rfl ?_; intro b1
  refine SXL.alloc zp_27 ?_; intro b2
  refine SXL.assign rfl ?_
  refine SXL.nil ?_
  refine thenQ.normal ?_
  refine SX.seq ?_
  refine SX.seq ?_
  refine SX.region ?_
  refine SXL.loadNo 0 sh_27 rfl rfl rfl ?_
  refine SXL.call1 (.int .i64 (if SpP s then 0 else 10)) fn_26 rfl (fun w hI => scheckC_any s bo ro bc rc hb hr _ (hg.inv hI) (hs.inv hI)) ?_
  refine SXL.assign rfl ?_
  refine SXL.nil ?_
  refine thenQ.normal ?_
  refine SX.seq ?_
  refine SX.region ?_
  refine SXL.move rfl ?_
  refine SXL.neqI rfl rfl ?_
  refine SXL.nil ?_
  refine thenQ.normal ?_
  refine SX.condP rfl (fun c10 => ?_) (fun c10 => ?_)
  · refine SX.seq ?_
    have hv : ¬SpP s := fun h => c10 (by rw [if_pos h])
    refine SX.region ?_
    refine SXL.buildS pl_27 zp_27 rfl rfl ?_
    refine SXL.move rfl ?_
    refine SXL.store 2 sz_27 rfl rfl rfl rfl rfl rfl ?_
    refine SXL.assign rfl ?_
    refine SXL.nil ?_
    refine thenQ.normal ?_
    refine SX.ret ?_
    refine thenQ.ret ?_
    refine retQ.dead [Sl.nil.ent 61 [], Sl.nil.ent 54 []] rfl ?_
    refine retQ.two (ResAt.cellNo 2 sh_27 rfl rfl rfl) (ResAt.tmp rfl) ?_
    rw [if_neg hv]
    have he : writeE s y = 10 := by rw [writeE, if_pos hv]
    rw [write_bad he (by omega), he]; exact SpE.zero _
  · refine SX.skip ?_
    refine thenQ.normal ?_
    refine SX.seq ?_
    refine SX.seq ?_
    have hv : SpP s := Decidable.byContradiction fun h => c10 (by rw [if_neg h]; omega)
    have hH := hv.1
    unfold HeadP at hH
    refine SX.region ?_
    refine SXL.fieldAddr fp_27_5 rfl ?_
    refine SXL.load1o 0 sh_24 rfl rfl rfl ?_
    refine SXL.len is_24 rfl ?_
    refine SXL.eqlI rfl rfl ?_
    refine SXL.nil ?_
    refine thenQ.normal ?_
    refine SX.condP rfl (fun c16 => ?_) (fun c16 => ?_)
    · refine SX.seq ?_
      refine SX.region ?_
      refine SXL.buildS pl_27 zp_27 rfl rfl ?_
      refine SXL.store 2 sz_27 rfl rfl rfl rfl rfl rfl ?_
      refine SXL.assign rfl ?_
      refine SXL.nil ?_
      refine thenQ.normal ?_
      refine SX.ret ?_
      refine thenQ.ret ?_
      refine retQ.dead [Sl.nil.ent 61 [], Sl.nil.ent 54 []] rfl ?_
      refine retQ.two (ResAt.cellNo 2 sh_27 rfl rfl rfl) (ResAt.tmp rfl) ?_
      have he : writeE s y = 9 := by rw [writeE, if_neg (not_not_intro hv), if_pos (by omega)]
      rw [write_bad he (by omega), he]; exact SpE.zero _
    · refine SX.skip ?_
      refine thenQ.normal ?_
      refine SX.seq ?_
      refine SX.region ?_
      refine SXL.loadNo 0 sh_27 rfl rfl rfl ?_
      refine SXL.callF (SpR s) fn_84 rfl (fun w hI => (swithout_any s bo ro bc rc [] none 0 (by simp) hb hr (nums_nodup hv.2.2) w (hs.inv hI) (.nil _ _ _)).mono (fun v own h => by rw [wo_nil] at h; exact h)) ?_; rintro _ _ ⟨r1, r2, o1, o2, rfl, rfl⟩
      refine SXL.store 0 sz_27 rfl rfl rfl rfl rfl rfl ?_
      refine SXL.nil ?_
      refine thenQ.normal ?_
      refine SX.seq ?_
      refine SX.region ?_
      refine SXL.fieldAddr fp_27_5 rfl ?_
      refine SXL.load1o 0 sh_24 rfl rfl rfl ?_
      refine SXL.loadNo 1 sh_61 rfl rfl rfl ?_
      refine SXL.buildSlice et_24 zp_61 rfl rfl rfl rfl ?_; intro b5
      refine SXL.append 3 ap_24 rfl rfl o1 rfl (.inr ⟨_, _, rfl, Mem.own (i := 5) rfl (takeAt_all _)⟩) rfl rfl ⟨by simp only [maxLen]; omega, by omega⟩ ?_; intro r_24 o_24
      rw [show s.book.length + 1 = (withLine s y).book.length from by simp [withLine]] at o_24 ⊢
      refine SXL.fieldAddr fp_27_5 rfl ?_
      refine SXL.store 0 sz_24 rfl rfl rfl rfl rfl rfl ?_
      refine SXL.nil ?_
      refine thenQ.normal ?_
      refine SX.seq ?_
      refine SX.seq ?_
      refine SX.region ?_
      refine SXL.loadNo 0 sh_27 rfl rfl rfl ?_
      refine SXL.call1 (.int .i64 (if SpP (withLine s y) then 0 else 10)) fn_26 rfl (fun w hI => scheckC_any (withLine s y) r_24.addr r2.addr r_24.cap r2.cap (by simp [withLine]; omega) hr _ (hg.inv hI) (spAtOwn (s := (withLine s y)) hI (by rw [bookC_line]; exact o_24) o2 (i := 3) (j := 4) (by rw [bookC_line]; rfl) rfl)) ?_
      refine SXL.neqI rfl rfl ?_
      refine SXL.nil ?_
      refine thenQ.normal ?_
      refine SX.condP rfl (fun c28 => ?_) (fun c28 => ?_)
      · refine SX.seq ?_
        have hw : ¬SpP (withLine s y) := fun h => c28 (by rw [if_pos h])
        refine SX.region ?_
        refine SXL.buildS pl_27 zp_27 rfl rfl ?_
        refine SXL.store 2 sz_27 rfl rfl rfl rfl rfl rfl ?_
        refine SXL.assign rfl ?_
        refine SXL.nil ?_
        refine thenQ.normal ?_
        refine SX.ret ?_
        refine thenQ.ret ?_
        refine retQ.dead [Sl.nil.ent 61 [], Sl.nil.ent 54 []] rfl ?_
        refine retQ.two (ResAt.cellNo 2 sh_27 rfl rfl rfl) (ResAt.tmp rfl) ?_
        have he : writeE s y = 13 := by rw [writeE, if_neg (not_not_intro hv), if_neg (by omega), if_pos hw]
        rw [write_bad he (by omega), he]; exact SpE.zero _
      · refine SX.skip ?_
        refine thenQ.normal ?_
        refine SX.seq ?_
        have hw : SpP (withLine s y) := Decidable.byContradiction fun h => c28 (by rw [if_neg h]; omega)
        refine SX.region ?_
        refine SXL.loadNo 0 sh_27 rfl rfl rfl ?_
        refine SXL.store 2 sz_27 rfl rfl rfl rfl rfl rfl ?_
        refine SXL.assign rfl ?_
        refine SXL.nil ?_
        refine thenQ.normal ?_
        refine SX.ret ?_
        refine retQ.sel [3, 4] rfl rfl ?_
        refine retQ.two (ResAt.cellNo 2 sh_27 rfl rfl rfl) (ResAt.tmp rfl) ?_
        have he : writeE s y = 0 := by rw [writeE, if_neg (not_not_intro hv), if_neg (by omega), if_neg (not_not_intro hw)]
        rw [write_ok he, he]; exact ⟨r_24, r2, by rw [bookC_line]; exact o_24, o2, rfl, by rw [bookC_line]; rfl⟩
set_option maxHeartbeats 2000000 in
theorem saddC_any (s : Sp) (bo ro : Option Addr) (bc rc : Nat) (x : Rd) (hb : s.book.length ≤ 1000000) (hr : s.reads.length ≤ 1000000) (w : World) (hg : Gc w) (hs : SpAt w s bo ro) :
    CallsR Tryd.prog 36 [.agg ⟨[.int .i64 s.weeks, .int .i64 s.most, .int .i64 s.fall, .int .i64 s.a0, .int .i64 s.a1, .int .i64 s.w0, .int .i64 s.w1, (.slice bo s.book.length bc), (.slice ro s.reads.length rc)]⟩, .agg ⟨x.cells⟩] w (SpE (addS s x) (addE s x)) := by
  refine CallsR.of_SX (n := 42) (rs := [.cell 4 27, .tmp 5]) Tryd.func36 rfl rfl rfl rfl ?_
  show SX _ _ _ ⟨[(0, .agg ⟨[.int .i64 s.weeks, .int .i64 s.most, .int .i64 s.fall, .int .i64 s.a0, .int .i64 s.a1, .int .i64 s.w0, .int .i64 s.w1, (.slice bo s.book.length bc), (.slice ro s.reads.length rc)]⟩), (1, .agg ⟨x.cells⟩)], [], []⟩
  refine SX.seq ?_
  refine SX.region ?_
  refine SXL.box rfl rfl ?_; intro b0
  refine SXL.box rfl rfl ?_; intro b1
  refine SXL.alloc zp_27 ?_; intro b2
  refine SXL.assign rfl ?_
  refine SXL.nil ?_
  refine thenQ.normal ?_
  refine SX.seq ?_
  refine SX.seq ?_
  refine SX.region ?_
  refine SXL.loadNo 0 sh_27 rfl rfl rfl ?_
  refine SXL.call1 (.int .i64 (if SpP s then 0 else 10)) fn_26 rfl (fun w hI => scheckC_any s bo ro bc rc hb hr _ (hg.inv hI) (hs.inv hI)) ?_
  refine SXL.assign rfl ?_
  refine SXL.nil ?_
  refine thenQ.normal ?_
  refine SX.seq ?_
  refine SX.region ?_
  refine SXL.move rfl ?_
  refine SXL.neqI rfl rfl ?_
  refine SXL.nil ?_
  refine thenQ.normal ?_
  refine SX.condP rfl (fun c12 => ?_) (fun c12 => ?_)
  · refine SX.seq ?_
    have hv : ¬SpP s := fun h => c12 (by rw [if_pos h])
    refine SX.region ?_
    refine SXL.buildS pl_27 zp_27 rfl rfl ?_
    refine SXL.move rfl ?_
    refine SXL.store 2 sz_27 rfl rfl rfl rfl rfl rfl ?_
    refine SXL.assign rfl ?_
    refine SXL.nil ?_
    refine thenQ.normal ?_
    refine SX.ret ?_
    refine thenQ.ret ?_
    refine retQ.dead [Sl.nil.ent 61 [], Sl.nil.ent 54 []] rfl ?_
    refine retQ.two (ResAt.cellNo 2 sh_27 rfl rfl rfl) (ResAt.tmp rfl) ?_
    rw [if_neg hv]
    have he : addE s x = 10 := by rw [addE, if_pos hv]
    rw [add_bad he (by omega), he]; exact SpE.zero _
  · refine SX.skip ?_
    refine thenQ.normal ?_
    refine SX.seq ?_
    refine SX.seq ?_
    have hv : SpP s := Decidable.byContradiction fun h => c12 (by rw [if_neg h]; omega)
    have hH := hv.1
    unfold HeadP at hH
    refine SX.region ?_
    refine SXL.fieldAddr fp_27_6 rfl ?_
    refine SXL.load1o 0 sh_25 rfl rfl rfl ?_
    refine SXL.len is_25 rfl ?_
    refine SXL.eqlI rfl rfl ?_
    refine SXL.nil ?_
    refine thenQ.normal ?_
    refine SX.condP rfl (fun c18 => ?_) (fun c18 => ?_)
    · refine SX.seq ?_
      refine SX.region ?_
      refine SXL.buildS pl_27 zp_27 rfl rfl ?_
      refine SXL.store 2 sz_27 rfl rfl rfl rfl rfl rfl ?_
      refine SXL.assign rfl ?_
      refine SXL.nil ?_
      refine thenQ.normal ?_
      refine SX.ret ?_
      refine thenQ.ret ?_
      refine retQ.dead [Sl.nil.ent 61 [], Sl.nil.ent 54 []] rfl ?_
      refine retQ.two (ResAt.cellNo 2 sh_27 rfl rfl rfl) (ResAt.tmp rfl) ?_
      have he : addE s x = 9 := by rw [addE, if_neg (not_not_intro hv), if_pos (by omega)]
      rw [add_bad he (by omega), he]; exact SpE.zero _
    · refine SX.skip ?_
      refine thenQ.normal ?_
      refine SX.seq ?_
      refine SX.region ?_
      refine SXL.loadNo 0 sh_27 rfl rfl rfl ?_
      refine SXL.callF (SpR s) fn_84 rfl (fun w hI => (swithout_any s bo ro bc rc [] none 0 (by simp) hb hr (nums_nodup hv.2.2) w (hs.inv hI) (.nil _ _ _)).mono (fun v own h => by rw [wo_nil] at h; exact h)) ?_; rintro _ _ ⟨r1, r2, o1, o2, rfl, rfl⟩
      refine SXL.store 0 sz_27 rfl rfl rfl rfl rfl rfl ?_
      refine SXL.nil ?_
      refine thenQ.normal ?_
      refine SX.seq ?_
      refine SX.region ?_
      refine SXL.fieldAddr fp_27_6 rfl ?_
      refine SXL.load1o 0 sh_25 rfl rfl rfl ?_
      refine SXL.fieldAddr fp_54_0 rfl ?_
      refine SXL.load1o 1 sh_3 rfl rfl rfl ?_
      refine SXL.callP (BsR s.reads x.num) fn_89 rfl (fun w hI => bsearch_any s.reads (asc_of hv) r2.addr r2.cap x.num (by omega) w (spAtOwn hI o1 o2 (i := 3) (j := 4) rfl rfl).reads) ?_; rintro _ ⟨pf, rfl⟩
      refine SXL.move rfl ?_
      refine SXL.extract rfl rfl ?_
      refine SXL.extract rfl rfl ?_
      refine SXL.assign rfl ?_
      refine SXL.assign rfl ?_
      refine SXL.nil ?_
      refine thenQ.normal ?_
      refine SX.seq ?_
      refine SX.region ?_
      refine SXL.fieldAddr fp_27_6 rfl ?_
      refine SXL.load1o 0 sh_25 rfl rfl rfl ?_
      refine SXL.move rfl ?_
      refine SXL.loadNo 1 sh_54 rfl rfl rfl ?_
      refine SXL.buildSlice et_25 zp_54 rfl rfl rfl rfl ?_; intro b5
      refine SXL.callM (InsR (insL s.reads x) _) [4, 5, 0, 1, 2, 3] rfl fn_92 rfl (fun w hI => insert_rd s.reads x (insN s.reads x.num) (insN_le _ _) (by omega) r2 o2 _ _ _ w hI) ?_; rintro _ _ ⟨q, oq, rfl, rfl⟩
      refine SXL.selO [1, 2, 3, 4, 0] rfl ?_
      refine SXL.fieldAddr fp_27_6 rfl ?_
      refine SXL.store 0 sz_25 rfl rfl rfl rfl rfl rfl ?_
      refine SXL.nil ?_
      refine thenQ.normal ?_
      refine SX.seq ?_
      refine SX.seq ?_
      refine SX.region ?_
      refine SXL.loadNo 0 sh_27 rfl rfl rfl ?_
      refine SXL.call1 (.int .i64 (if SpP (insS s x) then 0 else 10)) fn_26 rfl (fun w hI => scheckC_any (insS s x) r1.addr q.addr r1.cap q.cap (show s.book.length ≤ _ by omega) (show (insL s.reads x).length ≤ _ by rw [insL_len]; omega) _ (hg.inv hI) (spAtOwn (s := (insS s x)) hI o1 oq (i := 3) (j := 4) rfl rfl)) ?_
      refine SXL.neqI rfl rfl ?_
      refine SXL.nil ?_
      refine thenQ.normal ?_
      refine SX.condP rfl (fun c39 => ?_) (fun c39 => ?_)
      · refine SX.seq ?_
        have hw : ¬SpP (insS s x) := fun h => c39 (by rw [if_pos h])
        refine SX.region ?_
        refine SXL.buildS pl_27 zp_27 rfl rfl ?_
        refine SXL.store 2 sz_27 rfl rfl rfl rfl rfl rfl ?_
        refine SXL.assign rfl ?_
        refine SXL.nil ?_
        refine thenQ.normal ?_
        refine SX.ret ?_
        refine thenQ.ret ?_
        refine retQ.dead [Sl.nil.ent 61 [], Sl.nil.ent 54 []] rfl ?_
        refine retQ.two (ResAt.cellNo 2 sh_27 rfl rfl rfl) (ResAt.tmp rfl) ?_
        have he : addE s x = 12 := by rw [addE, if_neg (not_not_intro hv), if_neg (by omega), if_pos hw]
        rw [add_bad he (by omega), he]; exact SpE.zero _
      · refine SX.skip ?_
        refine thenQ.normal ?_
        refine SX.seq ?_
        have hw : SpP (insS s x) := Decidable.byContradiction fun h => c39 (by rw [if_neg h]; omega)
        refine SX.region ?_
        refine SXL.loadNo 0 sh_27 rfl rfl rfl ?_
        refine SXL.store 2 sz_27 rfl rfl rfl rfl rfl rfl ?_
        refine SXL.assign rfl ?_
        refine SXL.nil ?_
        refine thenQ.normal ?_
        refine SX.ret ?_
        refine retQ.sel [3, 4] rfl rfl ?_
        refine retQ.two (ResAt.cellNo 2 sh_27 rfl rfl rfl) (ResAt.tmp rfl) ?_
        have he : addE s x = 0 := by rw [addE, if_neg (not_not_intro hv), if_neg (by omega), if_neg (not_not_intro hw)]
        rw [add_ok he, he]; exact ⟨r1, q, o1, oq, rfl, rfl⟩
end Go.Proofs.YtknflipongbngaaDoor

/- SpringChanges: the walk. -/
namespace Go.Proofs.YtknflipongbngaaDoor
open Go.X Go.S Go.RowKit
theorem _root_.Go.X.Sl.Ok.set {r : Sl} {n size : Nat} {cells : List Value} (h : r.Ok n size cells) (i : Nat) (v : Value) : r.Ok n size (cells.set i v) :=
  ⟨by rw [List.length_set]; exact h.len, h.cap, h.max, h.nil, fun b hb => by rw [List.length_set]; exact h.full b hb⟩
theorem put_sl {c sp : List Value} {off : Nat} (v : Value) (h : off < c.length) : putAt (c ++ sp) off [v] = some (c.set off v ++ sp) := by
  rw [putAt_one v (by rw [List.length_append]; omega), List.set_append_left _ _ h]
/-- The blocks of springs that were handed back. -/
def zB (l : List (Sp × Sl × Sl)) : X.Own := l.flatMap fun z => [z.2.1.ent 61 (bookC z.1), z.2.2.ent 54 (readsC z.1)]
set_option maxHeartbeats 3000000 in
theorem changesC_law (s : Sp) (bo ro : Option Addr) (bc rc : Nat) (x : Rd) (y : Ln) (ns : List Int) (no : Option Addr) (nc : Nat) (hrc : s.reads.length ≤ rc) (w : World) (hg : Gc w) (hs : SpAt w s bo ro) (hns : RowsAt w no 1 (ones ns)) :
    CallsR Tryd.prog 5 [.agg ⟨[.int .i64 s.weeks, .int .i64 s.most, .int .i64 s.fall, .int .i64 s.a0, .int .i64 s.a1, .int .i64 s.w0, .int .i64 s.w1, (.slice bo s.book.length bc), (.slice ro s.reads.length rc)]⟩, .agg ⟨x.cells⟩, .agg ⟨y.cells⟩, .slice no ns.length nc] w (fun v _ => v = .bool true) := by
  refine CallsR.of_SX (n := 149) (rs := [.tmp 8]) Tryd.func5 rfl rfl rfl rfl ?_
  show SX _ _ _ ⟨[(0, .agg ⟨[.int .i64 s.weeks, .int .i64 s.most, .int .i64 s.fall, .int .i64 s.a0, .int .i64 s.a1, .int .i64 s.w0, .int .i64 s.w1, (.slice bo s.book.length bc), (.slice ro s.reads.length rc)]⟩), (1, .agg ⟨x.cells⟩), (2, .agg ⟨y.cells⟩), (3, .slice no ns.length nc)], [], []⟩
  refine SX.seq ?_
  refine SX.region ?_
  refine SXL.box rfl rfl ?_; intro b0
  refine SXL.box rfl rfl ?_; intro b1
  refine SXL.box rfl rfl ?_; intro b2
  refine SXL.assign rfl ?_
  refine SXL.nil ?_
  refine thenQ.normal ?_
  refine SX.seq ?_
  refine SX.seq ?_
  refine SX.region ?_
  refine SXL.loadNo 0 sh_27 rfl rfl rfl ?_
  refine SXL.call1 (.bool (decide ((30 : Int) < (s.book.length : Int) ∨ (30 : Int) < (s.reads.length : Int)))) fn_16 rfl (fun w hI => great_any s bo ro bc rc _) ?_
  refine SXL.move rfl ?_
  apply SXL.orG 3
  case hl => exact rfl
  case hd => exact rfl
  case hg => exact rfl
  case ht =>
    intro c34
    refine SXL.pass rfl rfl rfl ?_
    refine SXL.pass rfl rfl rfl ?_
    refine SXL.pass rfl rfl rfl ?_
    exact SXL.nil (segQ.mk (.skip rfl (.skip rfl (.skip rfl (.skip rfl (EnvSub.refl _))))) rfl rfl rfl)
  case hf =>
    intro c34
    refine SXL.move rfl ?_
    refine SXL.len is_35 rfl ?_
    refine SXL.gtr rfl rfl ?_
    exact SXL.nil (segQ.mk (.skip rfl (.skip rfl (.skip rfl (.skip rfl (EnvSub.refl _))))) rfl rfl ⟨rfl, rfl⟩)
  refine SXL.nil ?_
  refine thenQ.normal ?_
  refine SX.condP rfl (fun c34 => ?_) (fun c34 => ?_)
  · refine SX.seq ?_
    refine SX.region ?_
    refine SXL.assign rfl ?_
    refine SXL.nil ?_
    refine thenQ.normal ?_
    refine SX.ret ?_
    refine thenQ.ret ?_
    refine retQ.dead [] rfl ?_
    refine retQ.one (ResAt.tmp rfl) ?_
    rfl
  · refine SX.skip ?_
    refine thenQ.normal ?_
    refine SX.seq ?_
    have hb3 : s.book.length ≤ 30 ∧ s.reads.length ≤ 30 ∧ ns.length ≤ 30 := by omega
    have hla : (addS s x).book.length ≤ 1000000 ∧ (addS s x).reads.length ≤ 1000000 := by
          by_cases he : addE s x = 0
          · rw [add_ok he]; exact ⟨show s.book.length ≤ _ by omega, show (insL s.reads x).length ≤ _ by rw [insL_len]; omega⟩
          · rw [add_bad rfl he]; exact ⟨by simp [zeroSp], by simp [zeroSp]⟩
    have hlw : (writeS s y).book.length ≤ 1000000 ∧ (writeS s y).reads.length ≤ 1000000 := by
          by_cases he : writeE s y = 0
          · rw [write_ok he]; exact ⟨by simp [withLine]; omega, show s.reads.length ≤ _ by omega⟩
          · rw [write_bad rfl he]; exact ⟨by simp [zeroSp], by simp [zeroSp]⟩
    have hls : (strikeS s ns).book.length ≤ 1000000 ∧ (strikeS s ns).reads.length ≤ 1000000 := by
          by_cases he : strikeE s ns = 0
          · rw [strike_ok he]; exact ⟨show s.book.length ≤ _ by omega, by have := wo_len s ns; omega⟩
          · rw [strike_bad rfl he]; exact ⟨by simp [zeroSp], by simp [zeroSp]⟩
    refine SX.region ?_
    refine SXL.loadNo 0 sh_27 rfl rfl rfl ?_
    refine SXL.callF (SpR s) fn_17 rfl (fun w hI => twin_any s bo ro bc rc (by omega) (by omega) w (hs.inv hI)) ?_; rintro _ _ ⟨r1, r2, o1, o2, rfl, rfl⟩
    refine SXL.buildSlice0 et_35 ?_; intro b5
    refine SXL.move rfl ?_
    refine SXL.appendE (some b5) ap_35 rfl rfl (onesSrc hns _) (by simp) (ints_isOne _) ⟨by simp only [maxLen]; omega, by omega⟩ ?_; intro r_39 o_39
    refine SXL.alloc zp_27 ?_; intro b7
    refine SXL.store 7 sz_27 rfl rfl rfl rfl rfl (show _ = some [.int .i64 s.weeks, .int .i64 s.most, .int .i64 s.fall, .int .i64 s.a0, .int .i64 s.a1, .int .i64 s.w0, .int .i64 s.w1, r1.val s.book.length, r2.val s.reads.length] from rfl) ?_
    refine SXL.assign rfl ?_
    refine SXL.nil ?_
    refine thenQ.normal ?_
    refine SX.seq ?_
    refine SX.own_eq (own' := [(b0, .cells ⟨[.int .i64 s.weeks, .int .i64 s.most, .int .i64 s.fall, .int .i64 s.a0, .int .i64 s.a1, .int .i64 s.w0, .int .i64 s.w1, (.slice bo s.book.length bc), (.slice ro s.reads.length rc)]⟩ 27 (0, 0)), (b1, .cells ⟨x.cells⟩ 54 (0, 0)), (b2, .cells ⟨y.cells⟩ 61 (0, 0)), r1.ent 61 (bookC s), r2.ent 54 (readsC s), (b5, .cells ⟨[]⟩ 3 (0, 0)), r_39.ent 3 (ints ns), (b7, .cells ⟨[.int .i64 s.weeks, .int .i64 s.most, .int .i64 s.fall, .int .i64 s.a0, .int .i64 s.a1, .int .i64 s.w0, .int .i64 s.w1, r1.val s.book.length, r2.val s.reads.length]⟩ 27 (0, 0))]) rfl ?_
    refine SX.region ?_
    refine SXL.loadNo 7 sh_27 rfl rfl rfl ?_
    refine SXL.loadNo 1 sh_54 rfl rfl rfl ?_
    refine SXL.callF (SpE (addS s x) (addE s x)) fn_36 rfl (fun w hI => saddC_any s r1.addr r2.addr r1.cap r2.cap x (by omega) (by omega) w (hg.inv hI) (spAtOwn hI o1 o2 (i := 3) (j := 4) rfl rfl)) ?_; rintro _ _ ⟨a1, a2, oa1, oa2, rfl, rfl⟩
    refine SXL.move rfl ?_
    refine SXL.extract rfl rfl ?_
    refine SXL.extract rfl rfl ?_
    refine SXL.alloc zp_27 ?_; intro b10
    refine SXL.store 10 sz_27 rfl rfl rfl rfl rfl (show _ = some [.int .i64 (addS s x).weeks, .int .i64 (addS s x).most, .int .i64 (addS s x).fall, .int .i64 (addS s x).a0, .int .i64 (addS s x).a1, .int .i64 (addS s x).w0, .int .i64 (addS s x).w1, a1.val (addS s x).book.length, a2.val (addS s x).reads.length] from rfl) ?_
    refine SXL.assign rfl ?_
    refine SXL.nil ?_
    refine thenQ.normal ?_
    refine SX.seq ?_
    refine SX.own_eq (own' := [(b0, .cells ⟨[.int .i64 s.weeks, .int .i64 s.most, .int .i64 s.fall, .int .i64 s.a0, .int .i64 s.a1, .int .i64 s.w0, .int .i64 s.w1, (.slice bo s.book.length bc), (.slice ro s.reads.length rc)]⟩ 27 (0, 0)), (b1, .cells ⟨x.cells⟩ 54 (0, 0)), (b2, .cells ⟨y.cells⟩ 61 (0, 0)), r1.ent 61 (bookC s), r2.ent 54 (readsC s), (b5, .cells ⟨[]⟩ 3 (0, 0)), r_39.ent 3 (ints ns), (b7, .cells ⟨[.int .i64 s.weeks, .int .i64 s.most, .int .i64 s.fall, .int .i64 s.a0, .int .i64 s.a1, .int .i64 s.w0, .int .i64 s.w1, r1.val s.book.length, r2.val s.reads.length]⟩ 27 (0, 0)), a1.ent 61 (bookC (addS s x)), a2.ent 54 (readsC (addS s x)), (b10, .cells ⟨[.int .i64 (addS s x).weeks, .int .i64 (addS s x).most, .int .i64 (addS s x).fall, .int .i64 (addS s x).a0, .int .i64 (addS s x).a1, .int .i64 (addS s x).w0, .int .i64 (addS s x).w1, a1.val (addS s x).book.length, a2.val (addS s x).reads.length]⟩ 27 (0, 0))]) rfl ?_
    refine SX.region ?_
    refine SXL.loadNo 0 sh_27 rfl rfl rfl ?_
    refine SXL.loadNo 1 sh_54 rfl rfl rfl ?_
    refine SXL.callF (SpE (addS s x) (addE s x)) fn_37 rfl (fun w hI => radd_any s bo ro bc rc x hrc w (hs.inv hI)) ?_; rintro _ _ ⟨p1, p2, op1, op2, rfl, rfl⟩
    refine SXL.move rfl ?_
    refine SXL.extract rfl rfl ?_
    refine SXL.extract rfl rfl ?_
    refine SXL.alloc zp_27 ?_; intro b13
    refine SXL.store 13 sz_27 rfl rfl rfl rfl rfl (show _ = some [.int .i64 (addS s x).weeks, .int .i64 (addS s x).most, .int .i64 (addS s x).fall, .int .i64 (addS s x).a0, .int .i64 (addS s x).a1, .int .i64 (addS s x).w0, .int .i64 (addS s x).w1, p1.val (addS s x).book.length, p2.val (addS s x).reads.length] from rfl) ?_
    refine SXL.assign rfl ?_
    refine SXL.nil ?_
    refine thenQ.normal ?_
    refine SX.seq ?_
    refine SX.own_eq (own' := [(b0, .cells ⟨[.int .i64 s.weeks, .int .i64 s.most, .int .i64 s.fall, .int .i64 s.a0, .int .i64 s.a1, .int .i64 s.w0, .int .i64 s.w1, (.slice bo s.book.length bc), (.slice ro s.reads.length rc)]⟩ 27 (0, 0)), (b1, .cells ⟨x.cells⟩ 54 (0, 0)), (b2, .cells ⟨y.cells⟩ 61 (0, 0)), r1.ent 61 (bookC s), r2.ent 54 (readsC s), (b5, .cells ⟨[]⟩ 3 (0, 0)), r_39.ent 3 (ints ns), (b7, .cells ⟨[.int .i64 s.weeks, .int .i64 s.most, .int .i64 s.fall, .int .i64 s.a0, .int .i64 s.a1, .int .i64 s.w0, .int .i64 s.w1, r1.val s.book.length, r2.val s.reads.length]⟩ 27 (0, 0)), a1.ent 61 (bookC (addS s x)), a2.ent 54 (readsC (addS s x)), (b10, .cells ⟨[.int .i64 (addS s x).weeks, .int .i64 (addS s x).most, .int .i64 (addS s x).fall, .int .i64 (addS s x).a0, .int .i64 (addS s x).a1, .int .i64 (addS s x).w0, .int .i64 (addS s x).w1, a1.val (addS s x).book.length, a2.val (addS s x).reads.length]⟩ 27 (0, 0)), p1.ent 61 (bookC (addS s x)), p2.ent 54 (readsC (addS s x)), (b13, .cells ⟨[.int .i64 (addS s x).weeks, .int .i64 (addS s x).most, .int .i64 (addS s x).fall, .int .i64 (addS s x).a0, .int .i64 (addS s x).a1, .int .i64 (addS s x).w0, .int .i64 (addS s x).w1, p1.val (addS s x).book.length, p2.val (addS s x).reads.length]⟩ 27 (0, 0))]) rfl ?_
    refine SX.region ?_
    refine SXL.loadNo 7 sh_27 rfl rfl rfl ?_
    refine SXL.loadNo 2 sh_61 rfl rfl rfl ?_
    refine SXL.callF (SpE (writeS s y) (writeE s y)) fn_38 rfl (fun w hI => swriteC_any s r1.addr r2.addr r1.cap r2.cap y (by omega) (by omega) w (hg.inv hI) (spAtOwn hI o1 o2 (i := 3) (j := 4) rfl rfl)) ?_; rintro _ _ ⟨d1, d2, od1, od2, rfl, rfl⟩
    refine SXL.move rfl ?_
    refine SXL.extract rfl rfl ?_
    refine SXL.extract rfl rfl ?_
    refine SXL.alloc zp_27 ?_; intro b16
    refine SXL.store 16 sz_27 rfl rfl rfl rfl rfl (show _ = some [.int .i64 (writeS s y).weeks, .int .i64 (writeS s y).most, .int .i64 (writeS s y).fall, .int .i64 (writeS s y).a0, .int .i64 (writeS s y).a1, .int .i64 (writeS s y).w0, .int .i64 (writeS s y).w1, d1.val (writeS s y).book.length, d2.val (writeS s y).reads.length] from rfl) ?_
    refine SXL.assign rfl ?_
    refine SXL.nil ?_
    refine thenQ.normal ?_
    refine SX.seq ?_
    refine SX.own_eq (own' := [(b0, .cells ⟨[.int .i64 s.weeks, .int .i64 s.most, .int .i64 s.fall, .int .i64 s.a0, .int .i64 s.a1, .int .i64 s.w0, .int .i64 s.w1, (.slice bo s.book.length bc), (.slice ro s.reads.length rc)]⟩ 27 (0, 0)), (b1, .cells ⟨x.cells⟩ 54 (0, 0)), (b2, .cells ⟨y.cells⟩ 61 (0, 0)), r1.ent 61 (bookC s), r2.ent 54 (readsC s), (b5, .cells ⟨[]⟩ 3 (0, 0)), r_39.ent 3 (ints ns), (b7, .cells ⟨[.int .i64 s.weeks, .int .i64 s.most, .int .i64 s.fall, .int .i64 s.a0, .int .i64 s.a1, .int .i64 s.w0, .int .i64 s.w1, r1.val s.book.length, r2.val s.reads.length]⟩ 27 (0, 0)), a1.ent 61 (bookC (addS s x)), a2.ent 54 (readsC (addS s x)), (b10, .cells ⟨[.int .i64 (addS s x).weeks, .int .i64 (addS s x).most, .int .i64 (addS s x).fall, .int .i64 (addS s x).a0, .int .i64 (addS s x).a1, .int .i64 (addS s x).w0, .int .i64 (addS s x).w1, a1.val (addS s x).book.length, a2.val (addS s x).reads.length]⟩ 27 (0, 0)), p1.ent 61 (bookC (addS s x)), p2.ent 54 (readsC (addS s x)), (b13, .cells ⟨[.int .i64 (addS s x).weeks, .int .i64 (addS s x).most, .int .i64 (addS s x).fall, .int .i64 (addS s x).a0, .int .i64 (addS s x).a1, .int .i64 (addS s x).w0, .int .i64 (addS s x).w1, p1.val (addS s x).book.length, p2.val (addS s x).reads.length]⟩ 27 (0, 0)), d1.ent 61 (bookC (writeS s y)), d2.ent 54 (readsC (writeS s y)), (b16, .cells ⟨[.int .i64 (writeS s y).weeks, .int .i64 (writeS s y).most, .int .i64 (writeS s y).fall, .int .i64 (writeS s y).a0, .int .i64 (writeS s y).a1, .int .i64 (writeS s y).w0, .int .i64 (writeS s y).w1, d1.val (writeS s y).book.length, d2.val (writeS s y).reads.length]⟩ 27 (0, 0))]) rfl ?_
    refine SX.region ?_
    refine SXL.loadNo 0 sh_27 rfl rfl rfl ?_
    refine SXL.loadNo 2 sh_61 rfl rfl rfl ?_
    refine SXL.callF (SpE (writeS s y) (writeE s y)) fn_39 rfl (fun w hI => rwrite_any s bo ro bc rc y w (hs.inv hI)) ?_; rintro _ _ ⟨e1, e2, oe1, oe2, rfl, rfl⟩
    refine SXL.move rfl ?_
    refine SXL.extract rfl rfl ?_
    refine SXL.extract rfl rfl ?_
    refine SXL.alloc zp_27 ?_; intro b19
    refine SXL.store 19 sz_27 rfl rfl rfl rfl rfl (show _ = some [.int .i64 (writeS s y).weeks, .int .i64 (writeS s y).most, .int .i64 (writeS s y).fall, .int .i64 (writeS s y).a0, .int .i64 (writeS s y).a1, .int .i64 (writeS s y).w0, .int .i64 (writeS s y).w1, e1.val (writeS s y).book.length, e2.val (writeS s y).reads.length] from rfl) ?_
    refine SXL.assign rfl ?_
    refine SXL.nil ?_
    refine thenQ.normal ?_
    refine SX.seq ?_
    refine SX.own_eq (own' := [(b0, .cells ⟨[.int .i64 s.weeks, .int .i64 s.most, .int .i64 s.fall, .int .i64 s.a0, .int .i64 s.a1, .int .i64 s.w0, .int .i64 s.w1, (.slice bo s.book.length bc), (.slice ro s.reads.length rc)]⟩ 27 (0, 0)), (b1, .cells ⟨x.cells⟩ 54 (0, 0)), (b2, .cells ⟨y.cells⟩ 61 (0, 0)), r1.ent 61 (bookC s), r2.ent 54 (readsC s), (b5, .cells ⟨[]⟩ 3 (0, 0)), r_39.ent 3 (ints ns), (b7, .cells ⟨[.int .i64 s.weeks, .int .i64 s.most, .int .i64 s.fall, .int .i64 s.a0, .int .i64 s.a1, .int .i64 s.w0, .int .i64 s.w1, r1.val s.book.length, r2.val s.reads.length]⟩ 27 (0, 0)), a1.ent 61 (bookC (addS s x)), a2.ent 54 (readsC (addS s x)), (b10, .cells ⟨[.int .i64 (addS s x).weeks, .int .i64 (addS s x).most, .int .i64 (addS s x).fall, .int .i64 (addS s x).a0, .int .i64 (addS s x).a1, .int .i64 (addS s x).w0, .int .i64 (addS s x).w1, a1.val (addS s x).book.length, a2.val (addS s x).reads.length]⟩ 27 (0, 0)), p1.ent 61 (bookC (addS s x)), p2.ent 54 (readsC (addS s x)), (b13, .cells ⟨[.int .i64 (addS s x).weeks, .int .i64 (addS s x).most, .int .i64 (addS s x).fall, .int .i64 (addS s x).a0, .int .i64 (addS s x).a1, .int .i64 (addS s x).w0, .int .i64 (addS s x).w1, p1.val (addS s x).book.length, p2.val (addS s x).reads.length]⟩ 27 (0, 0)), d1.ent 61 (bookC (writeS s y)), d2.ent 54 (readsC (writeS s y)), (b16, .cells ⟨[.int .i64 (writeS s y).weeks, .int .i64 (writeS s y).most, .int .i64 (writeS s y).fall, .int .i64 (writeS s y).a0, .int .i64 (writeS s y).a1, .int .i64 (writeS s y).w0, .int .i64 (writeS s y).w1, d1.val (writeS s y).book.length, d2.val (writeS s y).reads.length]⟩ 27 (0, 0)), e1.ent 61 (bookC (writeS s y)), e2.ent 54 (readsC (writeS s y)), (b19, .cells ⟨[.int .i64 (writeS s y).weeks, .int .i64 (writeS s y).most, .int .i64 (writeS s y).fall, .int .i64 (writeS s y).a0, .int .i64 (writeS s y).a1, .int .i64 (writeS s y).w0, .int .i64 (writeS s y).w1, e1.val (writeS s y).book.length, e2.val (writeS s y).reads.length]⟩ 27 (0, 0))]) rfl ?_
    refine SX.region ?_
    refine SXL.loadNo 7 sh_27 rfl rfl rfl ?_
    refine SXL.move rfl ?_
    refine SXL.callF (SpE (strikeS s ns) (strikeE s ns)) fn_40 rfl (fun w hI => sstrikeC_any s r1.addr r2.addr r1.cap r2.cap ns r_39.addr r_39.cap (by omega) (by omega) (by omega) w (hg.inv hI) (spAtOwn hI o1 o2 (i := 3) (j := 4) rfl rfl) (slOnes hI o_39 (i := 6) rfl)) ?_; rintro _ _ ⟨l1, l2, ol1, ol2, rfl, rfl⟩
    refine SXL.move rfl ?_
    refine SXL.extract rfl rfl ?_
    refine SXL.extract rfl rfl ?_
    refine SXL.alloc zp_27 ?_; intro b22
    refine SXL.store 22 sz_27 rfl rfl rfl rfl rfl (show _ = some [.int .i64 (strikeS s ns).weeks, .int .i64 (strikeS s ns).most, .int .i64 (strikeS s ns).fall, .int .i64 (strikeS s ns).a0, .int .i64 (strikeS s ns).a1, .int .i64 (strikeS s ns).w0, .int .i64 (strikeS s ns).w1, l1.val (strikeS s ns).book.length, l2.val (strikeS s ns).reads.length] from rfl) ?_
    refine SXL.assign rfl ?_
    refine SXL.nil ?_
    refine thenQ.normal ?_
    refine SX.seq ?_
    refine SX.own_eq (own' := [(b0, .cells ⟨[.int .i64 s.weeks, .int .i64 s.most, .int .i64 s.fall, .int .i64 s.a0, .int .i64 s.a1, .int .i64 s.w0, .int .i64 s.w1, (.slice bo s.book.length bc), (.slice ro s.reads.length rc)]⟩ 27 (0, 0)), (b1, .cells ⟨x.cells⟩ 54 (0, 0)), (b2, .cells ⟨y.cells⟩ 61 (0, 0)), r1.ent 61 (bookC s), r2.ent 54 (readsC s), (b5, .cells ⟨[]⟩ 3 (0, 0)), r_39.ent 3 (ints ns), (b7, .cells ⟨[.int .i64 s.weeks, .int .i64 s.most, .int .i64 s.fall, .int .i64 s.a0, .int .i64 s.a1, .int .i64 s.w0, .int .i64 s.w1, r1.val s.book.length, r2.val s.reads.length]⟩ 27 (0, 0)), a1.ent 61 (bookC (addS s x)), a2.ent 54 (readsC (addS s x)), (b10, .cells ⟨[.int .i64 (addS s x).weeks, .int .i64 (addS s x).most, .int .i64 (addS s x).fall, .int .i64 (addS s x).a0, .int .i64 (addS s x).a1, .int .i64 (addS s x).w0, .int .i64 (addS s x).w1, a1.val (addS s x).book.length, a2.val (addS s x).reads.length]⟩ 27 (0, 0)), p1.ent 61 (bookC (addS s x)), p2.ent 54 (readsC (addS s x)), (b13, .cells ⟨[.int .i64 (addS s x).weeks, .int .i64 (addS s x).most, .int .i64 (addS s x).fall, .int .i64 (addS s x).a0, .int .i64 (addS s x).a1, .int .i64 (addS s x).w0, .int .i64 (addS s x).w1, p1.val (addS s x).book.length, p2.val (addS s x).reads.length]⟩ 27 (0, 0)), d1.ent 61 (bookC (writeS s y)), d2.ent 54 (readsC (writeS s y)), (b16, .cells ⟨[.int .i64 (writeS s y).weeks, .int .i64 (writeS s y).most, .int .i64 (writeS s y).fall, .int .i64 (writeS s y).a0, .int .i64 (writeS s y).a1, .int .i64 (writeS s y).w0, .int .i64 (writeS s y).w1, d1.val (writeS s y).book.length, d2.val (writeS s y).reads.length]⟩ 27 (0, 0)), e1.ent 61 (bookC (writeS s y)), e2.ent 54 (readsC (writeS s y)), (b19, .cells ⟨[.int .i64 (writeS s y).weeks, .int .i64 (writeS s y).most, .int .i64 (writeS s y).fall, .int .i64 (writeS s y).a0, .int .i64 (writeS s y).a1, .int .i64 (writeS s y).w0, .int .i64 (writeS s y).w1, e1.val (writeS s y).book.length, e2.val (writeS s y).reads.length]⟩ 27 (0, 0)), l1.ent 61 (bookC (strikeS s ns)), l2.ent 54 (readsC (strikeS s ns)), (b22, .cells ⟨[.int .i64 (strikeS s ns).weeks, .int .i64 (strikeS s ns).most, .int .i64 (strikeS s ns).fall, .int .i64 (strikeS s ns).a0, .int .i64 (strikeS s ns).a1, .int .i64 (strikeS s ns).w0, .int .i64 (strikeS s ns).w1, l1.val (strikeS s ns).book.length, l2.val (strikeS s ns).reads.length]⟩ 27 (0, 0))]) rfl ?_
    refine SX.region ?_
    refine SXL.loadNo 0 sh_27 rfl rfl rfl ?_
    refine SXL.move rfl ?_
    refine SXL.callF (SpE (strikeS s ns) (strikeE s ns)) fn_41 rfl (fun w hI => rstrike_any s bo ro bc rc ns no nc (by omega) w (hs.inv hI) (hns.inv hI)) ?_; rintro _ _ ⟨m1, m2, om1, om2, rfl, rfl⟩
    refine SXL.move rfl ?_
    refine SXL.extract rfl rfl ?_
    refine SXL.extract rfl rfl ?_
    refine SXL.alloc zp_27 ?_; intro b25
    refine SXL.store 25 sz_27 rfl rfl rfl rfl rfl (show _ = some [.int .i64 (strikeS s ns).weeks, .int .i64 (strikeS s ns).most, .int .i64 (strikeS s ns).fall, .int .i64 (strikeS s ns).a0, .int .i64 (strikeS s ns).a1, .int .i64 (strikeS s ns).w0, .int .i64 (strikeS s ns).w1, m1.val (strikeS s ns).book.length, m2.val (strikeS s ns).reads.length] from rfl) ?_
    refine SXL.assign rfl ?_
    refine SXL.nil ?_
    refine thenQ.normal ?_
    refine SX.seq ?_
    refine SX.own_eq (own' := [(b0, .cells ⟨[.int .i64 s.weeks, .int .i64 s.most, .int .i64 s.fall, .int .i64 s.a0, .int .i64 s.a1, .int .i64 s.w0, .int .i64 s.w1, (.slice bo s.book.length bc), (.slice ro s.reads.length rc)]⟩ 27 (0, 0)), (b1, .cells ⟨x.cells⟩ 54 (0, 0)), (b2, .cells ⟨y.cells⟩ 61 (0, 0)), r1.ent 61 (bookC s), r2.ent 54 (readsC s), (b5, .cells ⟨[]⟩ 3 (0, 0)), r_39.ent 3 (ints ns), (b7, .cells ⟨[.int .i64 s.weeks, .int .i64 s.most, .int .i64 s.fall, .int .i64 s.a0, .int .i64 s.a1, .int .i64 s.w0, .int .i64 s.w1, r1.val s.book.length, r2.val s.reads.length]⟩ 27 (0, 0)), a1.ent 61 (bookC (addS s x)), a2.ent 54 (readsC (addS s x)), (b10, .cells ⟨[.int .i64 (addS s x).weeks, .int .i64 (addS s x).most, .int .i64 (addS s x).fall, .int .i64 (addS s x).a0, .int .i64 (addS s x).a1, .int .i64 (addS s x).w0, .int .i64 (addS s x).w1, a1.val (addS s x).book.length, a2.val (addS s x).reads.length]⟩ 27 (0, 0)), p1.ent 61 (bookC (addS s x)), p2.ent 54 (readsC (addS s x)), (b13, .cells ⟨[.int .i64 (addS s x).weeks, .int .i64 (addS s x).most, .int .i64 (addS s x).fall, .int .i64 (addS s x).a0, .int .i64 (addS s x).a1, .int .i64 (addS s x).w0, .int .i64 (addS s x).w1, p1.val (addS s x).book.length, p2.val (addS s x).reads.length]⟩ 27 (0, 0)), d1.ent 61 (bookC (writeS s y)), d2.ent 54 (readsC (writeS s y)), (b16, .cells ⟨[.int .i64 (writeS s y).weeks, .int .i64 (writeS s y).most, .int .i64 (writeS s y).fall, .int .i64 (writeS s y).a0, .int .i64 (writeS s y).a1, .int .i64 (writeS s y).w0, .int .i64 (writeS s y).w1, d1.val (writeS s y).book.length, d2.val (writeS s y).reads.length]⟩ 27 (0, 0)), e1.ent 61 (bookC (writeS s y)), e2.ent 54 (readsC (writeS s y)), (b19, .cells ⟨[.int .i64 (writeS s y).weeks, .int .i64 (writeS s y).most, .int .i64 (writeS s y).fall, .int .i64 (writeS s y).a0, .int .i64 (writeS s y).a1, .int .i64 (writeS s y).w0, .int .i64 (writeS s y).w1, e1.val (writeS s y).book.length, e2.val (writeS s y).reads.length]⟩ 27 (0, 0)), l1.ent 61 (bookC (strikeS s ns)), l2.ent 54 (readsC (strikeS s ns)), (b22, .cells ⟨[.int .i64 (strikeS s ns).weeks, .int .i64 (strikeS s ns).most, .int .i64 (strikeS s ns).fall, .int .i64 (strikeS s ns).a0, .int .i64 (strikeS s ns).a1, .int .i64 (strikeS s ns).w0, .int .i64 (strikeS s ns).w1, l1.val (strikeS s ns).book.length, l2.val (strikeS s ns).reads.length]⟩ 27 (0, 0)), m1.ent 61 (bookC (strikeS s ns)), m2.ent 54 (readsC (strikeS s ns)), (b25, .cells ⟨[.int .i64 (strikeS s ns).weeks, .int .i64 (strikeS s ns).most, .int .i64 (strikeS s ns).fall, .int .i64 (strikeS s ns).a0, .int .i64 (strikeS s ns).a1, .int .i64 (strikeS s ns).w0, .int .i64 (strikeS s ns).w1, m1.val (strikeS s ns).book.length, m2.val (strikeS s ns).reads.length]⟩ 27 (0, 0))]) rfl ?_
    refine SX.region ?_
    refine SXL.loadNo 10 sh_27 rfl rfl rfl ?_
    refine SXL.loadNo 13 sh_27 rfl rfl rfl ?_
    refine SXL.call1 (.bool true) fn_29 rfl (fun w hI => (same_any (addS s x) (addS s x) a1.addr a2.addr p1.addr p2.addr a1.cap a2.cap p1.cap p2.cap hla.1 hla.2 _ (spAtOwn hI oa1 oa2 (i := 8) (j := 9) rfl rfl) (spAtOwn hI op1 op2 (i := 11) (j := 12) rfl rfl)).eqv (congrArg Value.bool (decide_eq_true rfl))) ?_
    refine SXL.move rfl ?_
    refine SXL.move rfl ?_
    refine SXL.move rfl ?_
    refine SXL.eqlT rfl rfl ?_
    refine SXL.pickAt (EnvSub.refl _) rfl rfl ?_ rfl rfl
    refine SXL.move rfl ?_
    refine SXL.loadNo 16 sh_27 rfl rfl rfl ?_
    refine SXL.loadNo 19 sh_27 rfl rfl rfl ?_
    refine SXL.call1 (.bool true) fn_29 rfl (fun w hI => (same_any (writeS s y) (writeS s y) d1.addr d2.addr e1.addr e2.addr d1.cap d2.cap e1.cap e2.cap hlw.1 hlw.2 _ (spAtOwn hI od1 od2 (i := 14) (j := 15) rfl rfl) (spAtOwn hI oe1 oe2 (i := 17) (j := 18) rfl rfl)).eqv (congrArg Value.bool (decide_eq_true rfl))) ?_
    refine SXL.pickAt (EnvSub.refl _) rfl rfl ?_ rfl rfl
    refine SXL.move rfl ?_
    refine SXL.move rfl ?_
    refine SXL.move rfl ?_
    refine SXL.eqlT rfl rfl ?_
    refine SXL.pickAt (EnvSub.refl _) rfl rfl ?_ rfl rfl
    refine SXL.move rfl ?_
    refine SXL.loadNo 22 sh_27 rfl rfl rfl ?_
    refine SXL.loadNo 25 sh_27 rfl rfl rfl ?_
    refine SXL.call1 (.bool true) fn_29 rfl (fun w hI => (same_any (strikeS s ns) (strikeS s ns) l1.addr l2.addr m1.addr m2.addr l1.cap l2.cap m1.cap m2.cap hls.1 hls.2 _ (spAtOwn hI ol1 ol2 (i := 20) (j := 21) rfl rfl) (spAtOwn hI om1 om2 (i := 23) (j := 24) rfl rfl)).eqv (congrArg Value.bool (decide_eq_true rfl))) ?_
    refine SXL.pickAt (EnvSub.refl _) rfl rfl ?_ rfl rfl
    refine SXL.move rfl ?_
    refine SXL.move rfl ?_
    refine SXL.move rfl ?_
    refine SXL.eqlT rfl rfl ?_
    refine SXL.pickAt (EnvSub.refl _) rfl rfl ?_ rfl rfl
    refine SXL.assign rfl ?_
    refine SXL.nil ?_
    refine thenQ.normal ?_
    refine SX.seq ?_
    refine SX.seq ?_
    refine SX.region ?_
    refine SXL.loadNo 10 sh_27 rfl rfl rfl ?_
    refine SXL.loadNo 16 sh_27 rfl rfl rfl ?_
    refine SXL.loadNo 22 sh_27 rfl rfl rfl ?_
    refine SXL.buildSlice et_70 zp_27 rfl rfl rfl (show _ = some [.int .i64 (addS s x).weeks, .int .i64 (addS s x).most, .int .i64 (addS s x).fall, .int .i64 (addS s x).a0, .int .i64 (addS s x).a1, .int .i64 (addS s x).w0, .int .i64 (addS s x).w1, a1.val (addS s x).book.length, a2.val (addS s x).reads.length, .int .i64 (writeS s y).weeks, .int .i64 (writeS s y).most, .int .i64 (writeS s y).fall, .int .i64 (writeS s y).a0, .int .i64 (writeS s y).a1, .int .i64 (writeS s y).w0, .int .i64 (writeS s y).w1, d1.val (writeS s y).book.length, d2.val (writeS s y).reads.length, .int .i64 (strikeS s ns).weeks, .int .i64 (strikeS s ns).most, .int .i64 (strikeS s ns).fall, .int .i64 (strikeS s ns).a0, .int .i64 (strikeS s ns).a1, .int .i64 (strikeS s ns).w0, .int .i64 (strikeS s ns).w1, l1.val (strikeS s ns).book.length, l2.val (strikeS s ns).reads.length] from rfl) ?_; intro b26
    refine SXL.len is_70 rfl ?_
    refine SXL.move rfl ?_
    refine SXL.nil ?_
    refine thenQ.normal ?_
    refine SX.block ?_
    refine SX.selO [0, 3, 4, 6, 7, 26, 8, 9, 14, 15, 20, 21] rfl ?_
    refine SX.loopW (α := Nat × List (Sp × Sl × Sl)) [3, 4, 8, 9, 10, 23, 107, 108] rfl (fun ⟨k2, rem⟩ => [(109, .int .i64 ((k2 : Int)))]) (fun ⟨k2, rem⟩ => [(b0, .cells ⟨[.int .i64 s.weeks, .int .i64 s.most, .int .i64 s.fall, .int .i64 s.a0, .int .i64 s.a1, .int .i64 s.w0, .int .i64 s.w1, (.slice bo s.book.length bc), (.slice ro s.reads.length rc)]⟩ 27 (0, 0)), r1.ent 61 (bookC s), r2.ent 54 (readsC s), r_39.ent 3 (ints ns), (b7, .cells ⟨[.int .i64 s.weeks, .int .i64 s.most, .int .i64 s.fall, .int .i64 s.a0, .int .i64 s.a1, .int .i64 s.w0, .int .i64 s.w1, r1.val s.book.length, r2.val s.reads.length]⟩ 27 (0, 0)), (b26, .cells ⟨[.int .i64 (addS s x).weeks, .int .i64 (addS s x).most, .int .i64 (addS s x).fall, .int .i64 (addS s x).a0, .int .i64 (addS s x).a1, .int .i64 (addS s x).w0, .int .i64 (addS s x).w1, a1.val (addS s x).book.length, a2.val (addS s x).reads.length, .int .i64 (writeS s y).weeks, .int .i64 (writeS s y).most, .int .i64 (writeS s y).fall, .int .i64 (writeS s y).a0, .int .i64 (writeS s y).a1, .int .i64 (writeS s y).w0, .int .i64 (writeS s y).w1, d1.val (writeS s y).book.length, d2.val (writeS s y).reads.length, .int .i64 (strikeS s ns).weeks, .int .i64 (strikeS s ns).most, .int .i64 (strikeS s ns).fall, .int .i64 (strikeS s ns).a0, .int .i64 (strikeS s ns).a1, .int .i64 (strikeS s ns).w0, .int .i64 (strikeS s ns).w1, l1.val (strikeS s ns).book.length, l2.val (strikeS s ns).reads.length]⟩ 27 (0, 0))]) (fun ⟨k2, rem⟩ => zB rem) (fun ⟨k2, rem⟩ => k2 ≤ 3 ∧ rem = List.drop k2 [((addS s x), a1, a2), ((writeS s y), d1, d2), ((strikeS s ns), l1, l2)]) (fun ⟨k2, rem⟩ => 3 - k2) (0, [((addS s x), a1, a2), ((writeS s y), d1, d2), ((strikeS s ns), l1, l2)]) ⟨Nat.zero_le _, rfl⟩ ⟨rfl, trivial⟩ rfl ?_
    rintro ⟨k2, rem⟩ ⟨hk20, hrm⟩
    refine SX.seq ?_
    refine SX.region ?_
    refine SXL.lss rfl rfl ?_
    refine SXL.nil ?_
    refine thenQ.normal ?_
    refine SX.seq ?_
    refine SX.condP rfl (fun c3 => ?_) (fun c3 => ?_)
    · refine SX.skip ?_
      refine thenQ.normal ?_
      refine SX.seq ?_
      refine SX.block ?_
      refine SX.seq ?_
      have hk2 : k2 < 3 := by omega
      obtain ⟨zs, z1, z2, rest, hrem, hrest, htk, oz1, oz2, hzl⟩ : ∃ (zs : Sp) (z1 z2 : Sl) (rest : List (Sp × Sl × Sl)), rem = (zs, z1, z2) :: rest ∧ rest = List.drop (k2 + 1) [((addS s x), a1, a2), ((writeS s y), d1, d2), ((strikeS s ns), l1, l2)] ∧ takeAt [.int .i64 (addS s x).weeks, .int .i64 (addS s x).most, .int .i64 (addS s x).fall, .int .i64 (addS s x).a0, .int .i64 (addS s x).a1, .int .i64 (addS s x).w0, .int .i64 (addS s x).w1, a1.val (addS s x).book.length, a2.val (addS s x).reads.length, .int .i64 (writeS s y).weeks, .int .i64 (writeS s y).most, .int .i64 (writeS s y).fall, .int .i64 (writeS s y).a0, .int .i64 (writeS s y).a1, .int .i64 (writeS s y).w0, .int .i64 (writeS s y).w1, d1.val (writeS s y).book.length, d2.val (writeS s y).reads.length, .int .i64 (strikeS s ns).weeks, .int .i64 (strikeS s ns).most, .int .i64 (strikeS s ns).fall, .int .i64 (strikeS s ns).a0, .int .i64 (strikeS s ns).a1, .int .i64 (strikeS s ns).w0, .int .i64 (strikeS s ns).w1, l1.val (strikeS s ns).book.length, l2.val (strikeS s ns).reads.length] (0 + (k2 : Int).toNat * 9) 9 = some [.int .i64 zs.weeks, .int .i64 zs.most, .int .i64 zs.fall, .int .i64 zs.a0, .int .i64 zs.a1, .int .i64 zs.w0, .int .i64 zs.w1, z1.val zs.book.length, z2.val zs.reads.length] ∧ z1.Ok zs.book.length 5 (bookC zs) ∧ z2.Ok zs.reads.length 5 (readsC zs) ∧ zs.book.length ≤ 1000000 ∧ zs.reads.length ≤ 1000000 := by
                  have h3 : k2 = 0 ∨ k2 = 1 ∨ k2 = 2 := by omega
                  rcases h3 with rfl | rfl | rfl
                  · exact ⟨_, _, _, _, hrm, rfl, rfl, oa1, oa2, hla⟩
                  · exact ⟨_, _, _, _, hrm, rfl, rfl, od1, od2, hlw⟩
                  · exact ⟨_, _, _, _, hrm, rfl, rfl, ol1, ol2, hls⟩
      subst hrem
      refine SX.own_eq (own' := ((b0, .cells ⟨[.int .i64 s.weeks, .int .i64 s.most, .int .i64 s.fall, .int .i64 s.a0, .int .i64 s.a1, .int .i64 s.w0, .int .i64 s.w1, (.slice bo s.book.length bc), (.slice ro s.reads.length rc)]⟩ 27 (0, 0)) :: r1.ent 61 (bookC s) :: r2.ent 54 (readsC s) :: r_39.ent 3 (ints ns) :: (b7, .cells ⟨[.int .i64 s.weeks, .int .i64 s.most, .int .i64 s.fall, .int .i64 s.a0, .int .i64 s.a1, .int .i64 s.w0, .int .i64 s.w1, r1.val s.book.length, r2.val s.reads.length]⟩ 27 (0, 0)) :: (b26, .cells ⟨[.int .i64 (addS s x).weeks, .int .i64 (addS s x).most, .int .i64 (addS s x).fall, .int .i64 (addS s x).a0, .int .i64 (addS s x).a1, .int .i64 (addS s x).w0, .int .i64 (addS s x).w1, a1.val (addS s x).book.length, a2.val (addS s x).reads.length, .int .i64 (writeS s y).weeks, .int .i64 (writeS s y).most, .int .i64 (writeS s y).fall, .int .i64 (writeS s y).a0, .int .i64 (writeS s y).a1, .int .i64 (writeS s y).w0, .int .i64 (writeS s y).w1, d1.val (writeS s y).book.length, d2.val (writeS s y).reads.length, .int .i64 (strikeS s ns).weeks, .int .i64 (strikeS s ns).most, .int .i64 (strikeS s ns).fall, .int .i64 (strikeS s ns).a0, .int .i64 (strikeS s ns).a1, .int .i64 (strikeS s ns).w0, .int .i64 (strikeS s ns).w1, l1.val (strikeS s ns).book.length, l2.val (strikeS s ns).reads.length]⟩ 27 (0, 0)) :: z1.ent 61 (bookC zs) :: z2.ent 54 (readsC zs) :: zB rest)) rfl ?_
      refine SX.region ?_
      refine SXL.indexS el_70 rfl rfl (by omega) ?_
      refine SXL.loadNo 5 sh_27 rfl rfl htk ?_
      refine SXL.alloc zp_27 ?_; intro b8
      refine SXL.insN 8 ?_
      refine SXL.store 8 sz_27 rfl rfl rfl rfl rfl (show _ = some [.int .i64 zs.weeks, .int .i64 zs.most, .int .i64 zs.fall, .int .i64 zs.a0, .int .i64 zs.a1, .int .i64 zs.w0, .int .i64 zs.w1, z1.val zs.book.length, z2.val zs.reads.length] from rfl) ?_
      refine SXL.nil ?_
      refine thenQ.normal ?_
      refine SX.seq ?_
      refine SX.seq ?_
      refine SX.region ?_
      refine SXL.fieldAddr fp_27_5 rfl ?_
      refine SXL.load1o 8 sh_24 rfl rfl rfl ?_
      refine SXL.len is_24 rfl ?_
      refine SXL.move rfl ?_
      refine SXL.nil ?_
      refine thenQ.normal ?_
      refine SX.block ?_
      refine SX.loopG (α := Nat × List Value) [3, 4, 8, 9, 10, 23, 25, 107, 108, 109, 115] rfl (fun ⟨k3, c⟩ => [(116, .int .i64 ((k3 : Int)))]) (fun ⟨k3, c⟩ => [(6, z1.ent 61 c)]) (fun ⟨k3, c⟩ => k3 ≤ zs.book.length ∧ z1.Ok zs.book.length 5 c) (fun ⟨k3, c⟩ => zs.book.length - k3) (0, bookC zs) ⟨Nat.zero_le _, oz1⟩ ⟨rfl, trivial⟩ rfl ?_
      rintro ⟨k3, c⟩ ⟨hk30, hoc⟩
      refine SX.seq ?_
      refine SX.region ?_
      refine SXL.lss rfl rfl ?_
      refine SXL.nil ?_
      refine thenQ.normal ?_
      refine SX.seq ?_
      refine SX.condP rfl (fun c4 => ?_) (fun c4 => ?_)
      · refine SX.skip ?_
        refine thenQ.normal ?_
        refine SX.seq ?_
        refine SX.block ?_
        refine SX.seq ?_
        have hk3 : k3 < zs.book.length := by omega
        obtain ⟨bz, hbz⟩ := hoc.some (by omega)
        have hcl := hoc.len
        obtain ⟨blk, cc, sp⟩ := z1
        obtain rfl : blk = some bz := hbz
        refine SX.region ?_
        refine SXL.move rfl ?_
        refine SXL.assign rfl ?_
        refine SXL.nil ?_
        refine thenQ.normal ?_
        refine SX.region ?_
        refine SXL.fieldAddr fp_27_5 rfl ?_
        refine SXL.load1o 8 sh_24 rfl rfl rfl ?_
        refine SXL.move rfl ?_
        refine SXL.indexSl 6 el_24 rfl rfl (by omega) rfl hoc ?_; intro bz2 hbz2; obtain rfl : bz = bz2 := Option.some.inj hbz2
        refine SXL.fieldAddr fp_61_1 rfl ?_
        refine SXL.store 6 (b := bz) sz_3 rfl rfl rfl rfl rfl (put_sl (.int .i64 (-7)) (show 0 + (k3 : Int).toNat * 5 + 2 < c.length by rw [Int.toNat_natCast]; omega)) ?_
        refine SXL.nil ?_
        refine blockQ.normal ?_
        refine thenQ.normal ?_
        refine SX.region ?_
        refine SXL.add rfl rfl (by omega) ?_
        refine SXL.move rfl ?_
        refine SXL.nil ?_
        refine thenQ.normal ?_
        refine ⟨(k3 + 1, _), ⟨⟨rfl, trivial⟩, ⟨rfl, rfl, rfl, rfl, rfl, rfl, rfl, rfl, rfl, rfl, rfl, trivial⟩, Sel.refl _, rfl⟩, ⟨by omega, hoc.set _ _⟩, (by show zs.book.length - (k3 + 1) < zs.book.length - k3; omega)⟩
      · refine SX.exit ?_
        refine thenQ.exit ?_
        refine thenQ.exit ?_
        refine blockQ.exit ?_
        refine thenQ.normal ?_
        refine SX.seq ?_
        refine SX.region ?_
        refine SXL.fieldAddr fp_27_6 rfl ?_
        refine SXL.load1o 8 sh_25 rfl rfl rfl ?_
        refine SXL.len is_25 rfl ?_
        refine SXL.move rfl ?_
        refine SXL.nil ?_
        refine thenQ.normal ?_
        refine SX.block ?_
        refine SX.loopG (α := Nat × List Value) [3, 4, 8, 9, 10, 23, 25, 107, 108, 109, 127] rfl (fun ⟨k4, c⟩ => [(128, .int .i64 ((k4 : Int)))]) (fun ⟨k4, c⟩ => [(7, z2.ent 54 c)]) (fun ⟨k4, c⟩ => k4 ≤ zs.reads.length ∧ z2.Ok zs.reads.length 5 c) (fun ⟨k4, c⟩ => zs.reads.length - k4) (0, readsC zs) ⟨Nat.zero_le _, oz2⟩ ⟨rfl, trivial⟩ rfl ?_
        rintro ⟨k4, c⟩ ⟨hk40, hoc⟩
        refine SX.seq ?_
        refine SX.region ?_
        refine SXL.lss rfl rfl ?_
        refine SXL.nil ?_
        refine thenQ.normal ?_
        refine SX.seq ?_
        refine SX.condP rfl (fun c5 => ?_) (fun c5 => ?_)
        · refine SX.skip ?_
          refine thenQ.normal ?_
          refine SX.seq ?_
          refine SX.block ?_
          refine SX.seq ?_
          have hk4 : k4 < zs.reads.length := by omega
          obtain ⟨bz, hbz⟩ := hoc.some (by omega)
          have hcl := hoc.len
          obtain ⟨blk, cc, sp⟩ := z2
          obtain rfl : blk = some bz := hbz
          refine SX.region ?_
          refine SXL.move rfl ?_
          refine SXL.assign rfl ?_
          refine SXL.nil ?_
          refine thenQ.normal ?_
          refine SX.region ?_
          refine SXL.fieldAddr fp_27_6 rfl ?_
          refine SXL.load1o 8 sh_25 rfl rfl rfl ?_
          refine SXL.move rfl ?_
          refine SXL.indexSl 7 el_25 rfl rfl (by omega) rfl hoc ?_; intro bz2 hbz2; obtain rfl : bz = bz2 := Option.some.inj hbz2
          refine SXL.fieldAddr fp_54_0 rfl ?_
          refine SXL.store 7 (b := bz) sz_3 rfl rfl rfl rfl rfl (put_sl (.int .i64 (-7)) (show 0 + (k4 : Int).toNat * 5 + 0 < c.length by rw [Int.toNat_natCast]; omega)) ?_
          refine SXL.nil ?_
          refine blockQ.normal ?_
          refine thenQ.normal ?_
          refine SX.region ?_
          refine SXL.add rfl rfl (by omega) ?_
          refine SXL.move rfl ?_
          refine SXL.nil ?_
          refine thenQ.normal ?_
          refine ⟨(k4 + 1, _), ⟨⟨rfl, trivial⟩, ⟨rfl, rfl, rfl, rfl, rfl, rfl, rfl, rfl, rfl, rfl, rfl, trivial⟩, Sel.refl _, rfl⟩, ⟨by omega, hoc.set _ _⟩, (by show zs.reads.length - (k4 + 1) < zs.reads.length - k4; omega)⟩
        · refine SX.exit ?_
          refine thenQ.exit ?_
          refine thenQ.exit ?_
          refine blockQ.exit ?_
          refine blockQ.normal ?_
          refine thenQ.normal ?_
          refine SX.region ?_
          refine SXL.add rfl rfl (by omega) ?_
          refine SXL.move rfl ?_
          refine SXL.nil ?_
          refine thenQ.normal ?_
          refine ⟨(k2 + 1, rest), ⟨⟨rfl, trivial⟩, ⟨rfl, rfl, rfl, rfl, rfl, rfl, rfl, rfl, trivial⟩, Sel.sub ((((((((((List.Sublist.refl (zB rest)).cons _).cons _).cons _).cons_cons _).cons_cons _).cons_cons _).cons_cons _).cons_cons _).cons_cons _), rfl⟩, ⟨by omega, hrest⟩, (by show 3 - (k2 + 1) < 3 - k2; omega)⟩
    · refine SX.exit ?_
      refine thenQ.exit ?_
      refine thenQ.exit ?_
      refine blockQ.exit ?_
      refine thenQ.normal ?_
      refine SX.seq ?_
      obtain rfl : k2 = 3 := by omega
      subst hrm
      refine SX.region ?_
      refine SXL.move rfl ?_
      refine SXL.move rfl ?_
      refine SXL.loadNo 4 sh_27 rfl rfl rfl ?_
      refine SXL.loadNo 0 sh_27 rfl rfl rfl ?_
      refine SXL.call1 (.bool true) fn_29 rfl (fun w hI => (same_any s s r1.addr r2.addr bo ro r1.cap r2.cap bc rc (by omega) (by omega) _ (spAtOwn hI o1 o2 (i := 1) (j := 2) rfl rfl) (hs.inv hI)).eqv (congrArg Value.bool (decide_eq_true rfl))) ?_
      refine SXL.pickAt (EnvSub.refl _) rfl rfl ?_ rfl rfl
      refine SXL.move rfl ?_
      refine SXL.move rfl ?_
      refine SXL.move rfl ?_
      refine SXL.call1 (.bool true) fn_28 rfl (fun w hI => (sameInts_any ns ns r_39.addr no r_39.cap nc (by omega) _ (slOnes hI o_39 (i := 3) rfl) (hns.inv hI)).eqv (congrArg Value.bool (decide_eq_true rfl))) ?_
      refine SXL.pickAt (EnvSub.refl _) rfl rfl ?_ rfl rfl
      refine SXL.assign rfl ?_
      refine SXL.nil ?_
      refine thenQ.normal ?_
      refine SX.ret ?_
      refine retQ.dead [] rfl ?_
      refine retQ.one (ResAt.tmp rfl) ?_
      rfl
end Go.Proofs.YtknflipongbngaaDoor

/- SpringChanges: whatever the input, the law returns true and the input reads as it did. Its condition: the package's variables are as the program's text lays them (the card ties them). -/
namespace Go.Proofs.YtknflipongbngaaDoor.SpringChanges
open Go Go.X Go.S Go.RowKit Go.ChangeShapes Go.WideShapes Go.ChangeAt
set_option maxRecDepth 100000
/-- The door's own heap meets the condition. -/
theorem door_met (os : Os) (args : Array Value) : laidMetH Tryd.prog Rows.springChangesRow.laid ((World.doorLaid Tryd.prog 24 os).forCall (fun _ _ => 0) ⟨#[], args, []⟩).memory :=
  laidMetH_of_parts3 (fuel := 8) (laidMet_of_run' 8 (by kernel_rfl) (by kernel_rfl)) (by kernel_rfl) (by kernel_rfl)
theorem spec_fn (H : Type) (ds : List (DataW H)) (h : ds.length = Tryd.f5.params.toList.length) : Rows.springChangesSpec.fn H ds = { results := [.lit (.bool true)], args := ds } := by
  rw [Tryd.params5] at h
  match ds, h with
  | [e0, e1, e2, e3], _ => rfl
theorem contract (H : Type) (enc : TypeId × Value → H) (W : World) (base : Nat) (args : Array Value) (ds gs : List (DataW H)) (before : List MemPlace)
    (hval : ∀ (j : Nat) t v, Tryd.f5.params[j]? = some t → args[j]? = some v → Value.okWide Tryd.prog W .any base t v)
    (hW : DataW.Whole enc Tryd.prog Tryd.f5.params.toList Rows.springChangesSpec.vars false W args.toList ds gs before) (hL : laidMetH Tryd.prog Rows.springChangesRow.laid W) :
    Calls Tryd.prog 5 args W fun e W' => ∃ v, e = .returned v ∧ Rows.springChangesSpec.post enc Tryd.prog Tryd.f5 false true false false W args v W' := by
  have hW' := hW
  obtain ⟨p, q, hA0, hV, rfl, hfz, hnd⟩ := hW
  have hA : DataW.TrodAll enc Tryd.prog W 0 (fun _ => true) true Tryd.f5.params.toList args.toList ds p := hA0
  rw [Tryd.params5] at hA hval
  obtain ⟨v0, vs0, d0, ds0, p0, q0, hv0, rfl, hp0, h0, r0⟩ := trodAll_cons hA
  obtain ⟨v1, vs1, d1, ds1, p1, q1, hv1, rfl, hp1, h1, r1⟩ := trodAll_cons r0
  obtain ⟨v2, vs2, d2, ds2, p2, q2, hv2, rfl, hp2, h2, r2⟩ := trodAll_cons r1
  obtain ⟨v3, vs3, d3, ds3, p3, q3, hv3, rfl, hp3, h3, r3⟩ := trodAll_cons r2
  obtain ⟨hvn, rfl, hpn⟩ := trodAll_nil r3
  have hargs : args = #[v0, v1, v2, v3] := by cases args; simp_all
  subst hargs
  obtain ⟨cs0, rfl, hf0⟩ := arg_struct lay27 ⟨_, Tryd.underlying27⟩ (hval 0 27 _ rfl rfl) h0
  obtain ⟨s, bo, ro, bc, rc, rfl, hs, hrc⟩ := sp_of_fits2 hf0
  obtain ⟨cx1, rfl, hfx1⟩ := arg_struct lay54 ⟨_, Tryd.underlying54⟩ (hval 1 54 _ rfl rfl) h1
  obtain ⟨a1, b1, c1, e1, f1, rfl⟩ := fits5 hfx1
  obtain ⟨x, hx⟩ : ∃ x : Rd, x = ⟨a1, b1, c1, e1, f1⟩ := ⟨_, rfl⟩
  obtain ⟨cx2, rfl, hfx2⟩ := arg_struct lay61 ⟨_, Tryd.underlying61⟩ (hval 2 61 _ rfl rfl) h2
  obtain ⟨a2, b2, c2, e2, f2, rfl⟩ := fits5 hfx2
  obtain ⟨no, nc, ns, rfl, hns⟩ := ints_of_fit (arg_cell lay35 (by kernel_rfl) (hval 3 35 _ rfl rfl) h3)
  have hg : Gc W := ⟨checks_of_laid hL (by simp [Rows.springChangesRow])⟩
  refine Calls.mono (show Calls Tryd.prog 5 _ W _ from changesC_law s bo ro bc rc ⟨a1, b1, c1, e1, f1⟩ ⟨a2, b2, c2, e2, f2⟩ ns no nc hrc W hg hs hns) ?_
  rintro e W' ⟨v, own, rfl, hI, rfl⟩
  exact ⟨_, rfl, law_post laidOut (by rw [Tryd.params5]; kernel_rfl) rfl (spec_fn H) (tb := 4) (by kernel_rfl) Tryd.underlying4 hW' hI.below⟩
theorem lifted (os : Os) (started : os.Started) (H : Type) (enc : TypeId × Value → H) :
    ReturnsInHanded {} Tryd.checked os 5 .any (fun w args => (Rows.springChangesSpec.pre enc Tryd.prog Tryd.f5 [] false w args ∧ laidMetH Tryd.prog Rows.springChangesRow.laid w) ∧ sizedMet enc Tryd.prog Tryd.f5 (OpenSpec.ofChange Rows.springChangesSpec) false w args)
      (Rows.springChangesSpec.post enc Tryd.prog Tryd.f5 false true false false) := by
  refine returnsInHanded_of_change_and (C := Tryd.checked) (X := fun w _ => laidMetH Tryd.prog Rows.springChangesRow.laid w) (fun _ _ _ hh h => h.of_heap hh) ownGd started (by kernel_rfl) Tryd.func5
    (ChangeSpec.witness_shaped (enc := enc) (C := Tryd.checked) (os := os) (X := fun w _ => laidMetH Tryd.prog Rows.springChangesRow.laid w) false (World.doorLaid Tryd.prog 24 os) #[.agg ⟨[.int .i64 0, .int .i64 0, .int .i64 0, .int .i64 0, .int .i64 0, .int .i64 0, .int .i64 0, .slice none 0 0, .slice none 0 0]⟩, .agg ⟨[.int .i64 0, .int .i64 0, .int .i64 0, .int .i64 0, .int .i64 0]⟩, .agg ⟨[.int .i64 0, .int .i64 0, .int .i64 0, .int .i64 0, .int .i64 0]⟩, .slice none 0 0] 8 rfl (World.shaped_of_RefB (by kernel_rfl) (by kernel_rfl)) (by kernel_rfl) (by kernel_rfl) (by kernel_rfl) (door_met os _)) ?_
  intro W base args ds gs before hval0 hW _ _ hL _
  exact contract H enc W base args ds gs before hval0 hW hL
theorem said : Rows.SpringChangesSaid :=
  OpenClaim.holds_of_wide 5 Tryd.f5 rfl rfl rfl rfl rfl rfl rfl ⟨rfl, rfl, rfl, rfl, rfl⟩ rfl rfl rfl rfl rfl (by kernel_rfl) Tryd.func5 (by kernel_rfl)
    (of_decide_eq_true (by kernel_rfl)) (by unfold Func.isWrapper; first | (rw [if_pos (by decide +kernel)]; kernel_rfl) | (rw [if_neg (by decide +kernel)]; exact ⟨rfl, rfl⟩))
    (fun os started H enc _ => lifted os started H enc)
theorem plain (f : FuncId) (fn : Func) (hf : Tryd.pinned.checked.prog.funcNamed "aguador/aguadorlaw01.SpringChanges" = some f) (hfn : Tryd.pinned.checked.prog.funcs[f]? = some fn) :
    false = Tryd.pinned.checked.prog.looks [] ∧ ∀ (j : Nat) t, fn.params[j]? = some t → Tryd.pinned.checked.prog.wantsStandIn t = false := by
  obtain rfl : f = 5 := Option.some.inj ((show Tryd.prog.funcNamed "aguador/aguadorlaw01.SpringChanges" = some 5 by kernel_rfl).symm.trans hf) |>.symm
  obtain rfl : fn = Tryd.f5 := (Option.some.inj (Tryd.func5.symm.trans hfn)).symm
  refine ⟨by kernel_rfl, fun j t ht => ?_⟩
  rw [Tryd.params5] at ht
  have hm : t ∈ ([27, 54, 61, 35] : List TypeId) := by simpa using Array.mem_of_getElem? ht
  have hall : (([27, 54, 61, 35] : List TypeId).all fun u => !Tryd.prog.wantsStandIn u) = true := by kernel_rfl
  exact (show Tryd.prog.wantsStandIn t = false by simpa using List.all_eq_true.1 hall t hm)
theorem springChanges_card : Rows.SpringChangesCardSaid :=
  Claim7.holds_tied_plain_at .later [] _ _ _ _ said (fun _ h => by cases h) (by kernel_rfl) (fun _ h => by cases h) springChanges_row_tie rfl ⟨rfl, rfl⟩ (by kernel_rfl) rfl plain (by kernel_rfl)
end Go.Proofs.YtknflipongbngaaDoor.SpringChanges
