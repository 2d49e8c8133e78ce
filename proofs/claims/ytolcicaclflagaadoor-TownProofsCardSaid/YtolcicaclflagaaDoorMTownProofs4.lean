/- Texts of the proof, merged: U5, T10, U6, TD3, T11, TD4, XSi, XSt, U7, R1. -/
import Derived.Test.YtolcicaclflagaaDoorMTownProofs3
/- The walks of the package town: what is known, the first week without. -/
namespace Go.Proofs.YtolcicaclflagaaDoor
open Go.X Go.S Go.T Go.RowKit
theorem ab_127 : boolArr2 Tryd.prog 127 = true := by kernel_rfl
theorem eg_127 : Tryd.prog.eqGuardType Tryd.prog.depth 127 = false := by kernel_rfl
set_option maxHeartbeats 2000000 in
theorem tknown_any (u : Su) (fo so : Option Addr) (fc sc : Nat) (fa : Nat → FA) (sa : Nat → DA) (week : Int) (F : Nat) (first capt : List Value) (p : Bool → Prop) [∀ b, Decidable (p b)] (hF : fnOk Tryd.prog F = true) (hl : LitP u) (w : World) (hg : Gt w) (hs : SuAt w u fo so fa sa) (hc : ∀ (best : Bool) w' (r : Sl), Below w.heap.size w w' → SuP u → TrueS u → Wi week 0 (long u - 1) → RowsAt w' r.addr 1 (ones (needs u best)) → CallsR Tryd.prog F (first ++ [.agg ⟨suW u fo so fc sc (pad4 (waterL u week (best))) (r.val (needs u (best)).length)⟩] ++ capt) w' (fun v _ => v = .bool (decide (p best)))) :
    CallsR Tryd.prog 46 [.agg ⟨[.slice fo u.founts.length fc, .slice so u.streets.length sc]⟩, .int .i64 week, .func (.func F) ⟨first⟩ ⟨capt⟩] w (fun v _ => v = .tuple ⟨[.int .u8 (knT (askT u week True 0) (p false) (p true)), .int .i64 (askT u week True 0)]⟩) := by
  refine CallsR.of_SX (n := 41) (rs := [.tmp 6, .tmp 7]) Tryd.func46 rfl rfl rfl rfl ?_
  show SX _ _ _ ⟨[(0, .agg ⟨[.slice fo u.founts.length fc, .slice so u.streets.length sc]⟩), (1, .int .i64 week), (2, .func (.func F) ⟨first⟩ ⟨capt⟩)], [], []⟩
  refine SX.seq ?_
  refine SX.region ?_
  refine SXL.box rfl rfl ?_; intro b0
  refine SXL.assign rfl ?_
  refine SXL.assign rfl ?_
  refine SXL.nil ?_
  refine thenQ.normal ?_
  refine SX.seq ?_
  refine SX.region ?_
  refine SXL.alloc zp_127 ?_; intro b1
  refine SXL.nil ?_
  refine thenQ.normal ?_
  refine SX.seq ?_
  refine SX.seq ?_
  refine SX.region ?_
  refine SXL.move rfl ?_
  refine SXL.nil ?_
  refine thenQ.normal ?_
  refine SX.block ?_
  refine SX.loopW (α := Nat × Bool × Bool) [1, 2, 3, 6, 7, 8] rfl (fun ⟨k, a, b⟩ => [(12, .int .i64 ((k : Int)))]) (fun ⟨k, a, b⟩ => [(b0, .cells ⟨[.slice fo u.founts.length fc, .slice so u.streets.length sc]⟩ 25 (0, 0)), (b1, .cells ⟨[.bool a, .bool b]⟩ 127 (0, 0))]) (fun ⟨k, a, b⟩ => []) (fun ⟨k, a, b⟩ => k ≤ 2 ∧ (0 < k → askT u week True 0 = 0) ∧ (0 < k → a = decide (p false)) ∧ (1 < k → b = decide (p true))) (fun ⟨k, a, b⟩ => 2 - k) (0, false, false) ⟨Nat.zero_le _, fun h => absurd h (by decide), fun h => absurd h (by decide), fun h => absurd h (by decide)⟩ ⟨rfl, trivial⟩ rfl ?_
  rintro ⟨k, a, b⟩ ⟨hk, he2, ha, hb⟩
  refine SX.seq ?_
  refine SX.region ?_
  refine SXL.lss rfl rfl ?_
  refine SXL.nil ?_
  refine thenQ.normal ?_
  refine SX.seq ?_
  refine SX.condP rfl (fun c13 => ?_) (fun c13 => ?_)
  · refine SX.skip ?_
    refine thenQ.normal ?_
    refine SX.seq ?_
    refine SX.block ?_
    refine SX.seq ?_
    refine SX.region ?_
    refine SXL.move rfl ?_
    refine SXL.assign rfl ?_
    refine SXL.nil ?_
    refine thenQ.normal ?_
    refine SX.seq ?_
    refine SX.region ?_
    refine SXL.loadNo 0 sh_25 rfl rfl rfl ?_
    refine SXL.move rfl ?_
    refine SXL.move rfl ?_
    refine SXL.gtr rfl rfl ?_
    refine SXL.callF (DrR u fo so fc sc (week) (decide ((0 : Int) < (k : Int))) (askT u (week) (True) (0))) fn_42 rfl (fun w hI => tasked_any u fo so fc sc fa sa (week) (decide ((0 : Int) < (k : Int))) (True) (0) (fun h => absurd trivial h) hl w (hg.inv hI) (hs.inv hI)) ?_; rintro _ _ ⟨C, r, N, hC1, hC2, ho, rfl, rfl, hok⟩
    refine SXL.move rfl ?_
    refine SXL.extract rfl rfl ?_
    refine SXL.extract rfl rfl ?_
    refine SXL.alloc zp_78 ?_; intro b3
    refine SXL.store 3 sz_78 rfl rfl rfl rfl hC1 (putAt_all _ _ hC1) ?_ hC2
    refine SXL.assign rfl ?_
    refine SXL.nil ?_
    refine thenQ.normal ?_
    refine SX.seq ?_
    refine SX.seq ?_
    refine SX.region ?_
    refine SXL.move rfl ?_
    refine SXL.neqI rfl rfl ?_
    refine SXL.nil ?_
    refine thenQ.normal ?_
    refine SX.condP rfl (fun c24 => ?_) (fun c24 => ?_)
    · refine SX.seq ?_
      refine SX.region ?_
      refine SXL.move rfl ?_
      refine SXL.assign rfl ?_
      refine SXL.assign rfl ?_
      refine SXL.nil ?_
      refine thenQ.normal ?_
      refine SX.ret ?_
      refine thenQ.ret ?_
      refine blockQ.ret ?_
      refine thenQ.ret ?_
      refine thenQ.ret ?_
      refine blockQ.ret ?_
      refine thenQ.ret ?_
      refine retQ.two (ResAt.tmp rfl) (ResAt.tmp rfl) ?_
      rw [knT, if_pos c24]
    · refine SX.skip ?_
      refine thenQ.normal ?_
      have he := Classical.not_not.1 c24
      obtain ⟨hv, hw, _, ht⟩ := askT_ok (fun h => absurd trivial h) he
      obtain ⟨rfl, rfl⟩ := hok he
      refine SX.region ?_
      refine SXL.move rfl ?_
      refine SXL.move rfl ?_
      refine SXL.loadNo 3 sh_78 rfl rfl (takeAt_full (k := 7) hC1) ?_
      refine SXL.call1V (.bool (decide (p (decide ((0 : Int) < (k : Int)))))) hF rfl rfl (fun w hI => hc (decide ((0 : Int) < (k : Int))) w r hI.below hv ht hw (slOnes hI ho (i := 2) rfl)) ?_
      refine SXL.indexA el_127 rfl rfl (by omega) ?_
      refine SXL.store 1 sz_4 rfl rfl rfl rfl rfl (putB2 (k := k) (by simp) (by omega)) ?_
      refine SXL.nil ?_
      refine blockQ.normal ?_
      refine thenQ.normal ?_
      refine SX.region ?_
      refine SXL.add rfl rfl (by omega) ?_
      refine SXL.move rfl ?_
      refine SXL.nil ?_
      refine thenQ.normal ?_
      refine ⟨(k + 1, _, _), MeetsW.mkP _ ⟨rfl, trivial⟩ ⟨rfl, rfl, rfl, rfl, rfl, rfl, trivial⟩ rfl, ?_, (show 2 - (k + 1) < 2 - k by omega)⟩
      rcases (show k = 0 ∨ k = 1 by omega) with rfl | rfl
      · exact ⟨by omega, fun _ => he, fun _ => rfl, fun h => absurd h (by omega)⟩
      · exact ⟨by omega, fun _ => he, fun _ => by have := ha (by omega); simpa using this, fun _ => rfl⟩
  · refine SX.exit ?_
    refine thenQ.exit ?_
    refine thenQ.exit ?_
    refine blockQ.exit ?_
    refine thenQ.normal ?_
    refine SX.seq ?_
    refine SX.seq ?_
    obtain rfl : k = 2 := by omega
    refine SX.region ?_
    refine SXL.loadNo 1 sh_127 rfl rfl rfl ?_
    refine SXL.nil ?_
    refine thenQ.normal ?_
    refine SX.block ?_
    refine SX.seq ?_
    refine SX.seq ?_
    refine SX.region ?_
    refine SXL.buildA ae_127 zp_127 rfl rfl ?_
    refine SXL.eqlBB ab_127 eg_127 rfl rfl ?_
    refine SXL.assign rfl ?_
    refine SXL.nil ?_
    refine thenQ.normal ?_
    refine SX.cond rfl (fun c33 => ?_) (fun c33 => ?_)
    · refine SX.skip ?_
      refine thenQ.normal ?_
      refine SX.cond rfl (fun c33 => ?_) (fun c33 => ?_)
      · refine SX.seq ?_
        refine SX.region ?_
        refine SXL.assign rfl ?_
        refine SXL.assign rfl ?_
        refine SXL.nil ?_
        refine thenQ.normal ?_
        refine SX.ret ?_
        refine blockQ.ret ?_
        refine thenQ.ret ?_
        refine retQ.two (ResAt.tmp rfl) (ResAt.tmp rfl) ?_
        rw [he2 (by omega)]; have e1 := ha (by omega); have e2 := hb (by omega); subst e1 e2; by_cases h1 : p false <;> by_cases h2 : p true <;> simp_all [knT]
      · refine SX.seq ?_
        refine SX.region ?_
        refine SXL.buildA ae_127 zp_127 rfl rfl ?_
        refine SXL.eqlBB ab_127 eg_127 rfl rfl ?_
        refine SXL.assign rfl ?_
        refine SXL.nil ?_
        refine thenQ.normal ?_
        refine SX.cond rfl (fun c38 => ?_) (fun c38 => ?_)
        · refine SX.seq ?_
          refine SX.region ?_
          refine SXL.assign rfl ?_
          refine SXL.assign rfl ?_
          refine SXL.nil ?_
          refine thenQ.normal ?_
          refine SX.ret ?_
          refine blockQ.ret ?_
          refine thenQ.ret ?_
          refine retQ.two (ResAt.tmp rfl) (ResAt.tmp rfl) ?_
          rw [he2 (by omega)]; have e1 := ha (by omega); have e2 := hb (by omega); subst e1 e2; by_cases h1 : p false <;> by_cases h2 : p true <;> simp_all [knT]
        · refine SX.skip ?_
          refine blockQ.normal ?_
          refine thenQ.normal ?_
          refine SX.seq ?_
          refine SX.region ?_
          refine SXL.assign rfl ?_
          refine SXL.assign rfl ?_
          refine SXL.nil ?_
          refine thenQ.normal ?_
          refine SX.ret ?_
          refine retQ.two (ResAt.tmp rfl) (ResAt.tmp rfl) ?_
          rw [he2 (by omega)]; have e1 := ha (by omega); have e2 := hb (by omega); subst e1 e2; by_cases h1 : p false <;> by_cases h2 : p true <;> simp_all [knT]
    · refine SX.region ?_
      refine SXL.buildA ae_127 zp_127 rfl rfl ?_
      refine SXL.eqlBB ab_127 eg_127 rfl rfl ?_
      refine SXL.assign rfl ?_
      refine SXL.nil ?_
      refine thenQ.normal ?_
      refine SX.cond rfl (fun c33 => ?_) (fun c33 => ?_)
      · refine SX.seq ?_
        refine SX.region ?_
        refine SXL.assign rfl ?_
        refine SXL.assign rfl ?_
        refine SXL.nil ?_
        refine thenQ.normal ?_
        refine SX.ret ?_
        refine blockQ.ret ?_
        refine thenQ.ret ?_
        refine retQ.two (ResAt.tmp rfl) (ResAt.tmp rfl) ?_
        rw [he2 (by omega)]; have e1 := ha (by omega); have e2 := hb (by omega); subst e1 e2; by_cases h1 : p false <;> by_cases h2 : p true <;> simp_all [knT]
      · refine SX.seq ?_
        refine SX.region ?_
        refine SXL.buildA ae_127 zp_127 rfl rfl ?_
        refine SXL.eqlBB ab_127 eg_127 rfl rfl ?_
        refine SXL.assign rfl ?_
        refine SXL.nil ?_
        refine thenQ.normal ?_
        refine SX.cond rfl (fun c38 => ?_) (fun c38 => ?_)
        · refine SX.seq ?_
          refine SX.region ?_
          refine SXL.assign rfl ?_
          refine SXL.assign rfl ?_
          refine SXL.nil ?_
          refine thenQ.normal ?_
          refine SX.ret ?_
          refine blockQ.ret ?_
          refine thenQ.ret ?_
          refine retQ.two (ResAt.tmp rfl) (ResAt.tmp rfl) ?_
          rw [he2 (by omega)]; have e1 := ha (by omega); have e2 := hb (by omega); subst e1 e2; by_cases h1 : p false <;> by_cases h2 : p true <;> simp_all [knT]
        · refine SX.skip ?_
          refine blockQ.normal ?_
          refine thenQ.normal ?_
          refine SX.seq ?_
          refine SX.region ?_
          refine SXL.assign rfl ?_
          refine SXL.assign rfl ?_
          refine SXL.nil ?_
          refine thenQ.normal ?_
          refine SX.ret ?_
          refine retQ.two (ResAt.tmp rfl) (ResAt.tmp rfl) ?_
          rw [he2 (by omega)]; have e1 := ha (by omega); have e2 := hb (by omega); subst e1 e2; by_cases h1 : p false <;> by_cases h2 : p true <;> simp_all [knT]
end Go.Proofs.YtolcicaclflagaaDoor

/- The most that streets can get; which pint more helps; how many are enough. Nothing of Go stands here. -/
namespace Go.T
open Go.S Go.X
def totTo (l : List Int) : Nat → Int
  | 0 => 0
  | k + 1 => totTo l k + l.getD k 0
/-- The sum of all. -/
def totL (l : List Int) : Int := totTo l l.length
def flowTo (u : Su) (W L : List Int) : Nat → Int
  | 0 => totL L
  | k + 1 => min (flowTo u W L k) (totL L - sumB k L + thr u k W)
/-- The most that streets can get together. -/
def flow (u : Su) (W L : List Int) : Int := flowTo u W L (2 ^ L.length)
theorem totTo_in {L : List Int} (h : Sm L) : ∀ k : Nat, -(1000000 * (k : Int)) ≤ totTo L k ∧ totTo L k ≤ 1000000 * (k : Int)
  | 0 => by simp [totTo]
  | k + 1 => by
    have ih := totTo_in h k
    have h1 := h k
    simp only [totTo]; omega
theorem flow_in {u : Su} {W L : List Int} (hL : Sm L) (hW : Sm W) (hl : L.length ≤ 5) (hu : u.founts.length ≤ 4) : ∀ k, -20000000 ≤ flowTo u W L k ∧ flowTo u W L k ≤ 5000000
  | 0 => by have := totTo_in hL L.length; simp only [flowTo, totL]; omega
  | k + 1 => by
    have ih := flow_in (u := u) hL hW hl hu k
    have h1 := totTo_in hL L.length
    have h2 := sumTo_in (b := k) hL L.length
    have h3 := thrTo_in (u := u) (b := k) hW u.founts.length
    simp only [flowTo, totL, sumB, thr]; omega
theorem flowTo_congr {u : Su} {W W' L : List Int} (h : ∀ k, W.getD k 0 = W'.getD k 0) : ∀ k, flowTo u W L k = flowTo u W' L k
  | 0 => rfl
  | k + 1 => by simp only [flowTo]; rw [flowTo_congr h k, thr_congr h]
theorem flow_congr {u : Su} {W W' L : List Int} (h : ∀ k, W.getD k 0 = W'.getD k 0) : flow u W L = flow u W' L := flowTo_congr h _
theorem hasI_not {n b i : Nat} (hb : b < 2 ^ n) (hi : i < n) : hasI (2 ^ n - 1 - b) i ↔ ¬hasI b i := by
  have ht : ∀ x k : Nat, hasI x k ↔ x.testBit k = true := fun x k => by rw [Nat.testBit_eq_decide_div_mod_eq]; simp
  rw [ht, ht, show 2 ^ n - 1 - b = 2 ^ n - (b + 1) by omega, Nat.testBit_two_pow_sub_succ hb]
  simp [hi]
theorem sumTo_not {n b : Nat} (l : List Int) (hb : b < 2 ^ n) : ∀ k, k ≤ n → sumTo (2 ^ n - 1 - b) l k + sumTo b l k = totTo l k
  | 0, _ => rfl
  | k + 1, hk => by
    have ih := sumTo_not l hb k (by omega)
    have h1 := hasI_not hb (show k < n by omega)
    simp only [sumTo, totTo]
    by_cases hc : hasI b k
    · rw [if_neg (fun h => h1.1 h hc), if_pos hc]; omega
    · rw [if_pos (h1.2 hc), if_neg hc]; omega
theorem sumTo_zero (l : List Int) : ∀ k, sumTo 0 l k = 0
  | 0 => rfl
  | k + 1 => by simp only [sumTo]; rw [if_neg (by simp [hasI]), sumTo_zero l k]
theorem sumB_not {b : Nat} {l : List Int} (hb : b < 2 ^ l.length) : sumB (2 ^ l.length - 1 - b) l = totL l - sumB b l := by
  have := sumTo_not l hb l.length (Nat.le_refl _)
  unfold sumB totL; omega
theorem sumB_all (l : List Int) : sumB (2 ^ l.length - 1) l = totL l := by
  have := sumB_not (l := l) (b := 0) (Nat.two_pow_pos _)
  rw [Nat.sub_zero] at this
  rw [this, sumB, sumTo_zero]; omega
def moLo (u : Su) (week : Int) : Int := if askT u week True 0 = 0 then flow u (waterL u week false) (needs u true) else 0
def moHi (u : Su) (week : Int) : Int := if askT u week True 0 = 0 then flow u (waterL u week true) (needs u false) else 0
/-! ### which pint more helps -/
def helTo (u : Su) (W L : List Int) : Nat → List Int
  | 0 => []
  | k + 1 => if flow u W L < flow u (W.set k (W.getD k 0 + 1)) L then helTo u W L k ++ [(u.founts.getD k default).id] else helTo u W L k
theorem helTo_len (u : Su) (W L : List Int) : ∀ k, (helTo u W L k).length ≤ k
  | 0 => Nat.le_refl _
  | k + 1 => by
    have := helTo_len u W L k
    simp only [helTo]; split
    · simp; omega
    · omega
def helL (u : Su) (week : Int) : List Int := if askT u week True 0 = 0 then helTo u (waterL u week false) (needs u false) u.founts.length else []
theorem helL_len {u : Su} {week : Int} : (helL u week).length ≤ u.founts.length := by
  unfold helL; split
  · exact helTo_len _ _ _ _
  · exact Nat.zero_le _
theorem pad_set_at {l : List Int} {k : Nat} (x : Int) (hk : k < l.length) (j : Nat) : ((pad4 l).set k x).getD j 0 = (l.set k x).getD j 0 := by
  by_cases e : j = k
  · subst e; rw [getD_set_self _ hk, getD_set_self _ (by simp [pad4]; omega)]
  · rw [getD_set_ne _ e, getD_set_ne _ e, pad4_at]
theorem set_sm {l : List Int} (h : ∀ k : Nat, 0 ≤ l.getD k 0 ∧ l.getD k 0 ≤ 100) {k : Nat} {x : Int} (hx : 0 ≤ x ∧ x ≤ 1000) : Sm (l.set k x) := fun j => by
  by_cases hk : k < l.length
  · by_cases e : j = k
    · subst e; rw [getD_set_self _ hk]; omega
    · rw [getD_set_ne _ e]; have := h j; omega
  · rw [List.set_eq_of_length_le (by omega)]; have := h j; omega
/-! ### how many pints more are enough -/
/-- Each set that lacks water can draw from there. -/
def MoOk (u : Su) (W L : List Int) (id : Int) : Prop := ∀ b, b < 2 ^ L.length → lack u W L b ≤ 0 ∨ opnB u b id u.streets.length
instance (u : Su) (W L : List Int) (id : Int) : Decidable (MoOk u W L id) := by unfold MoOk; infer_instance
def moE (u : Su) (week id : Int) : Int := if askT u week (0 ≤ fountI u id) 93 ≠ 0 then askT u week (0 ≤ fountI u id) 93 else if MoOk u (waterL u week false) (needs u false) id then 0 else 6
def moV (u : Su) (week id : Int) : Int := if moE u week id = 0 then maxL u (waterL u week false) (needs u false) (2 ^ u.streets.length) else 0
theorem maxL_pos (u : Su) (W L : List Int) : ∀ k, 0 ≤ maxL u W L k
  | 0 => Int.le_refl _
  | k + 1 => by have := maxL_pos u W L k; simp only [maxL]; omega
theorem lack_congr {u : Su} {W W' L : List Int} (h : ∀ k, W.getD k 0 = W'.getD k 0) (b : Nat) : lack u W L b = lack u W' L b := by unfold lack; rw [thr_congr h]
theorem maxL_congr {u : Su} {W W' L : List Int} (h : ∀ k, W.getD k 0 = W'.getD k 0) : ∀ k, maxL u W L k = maxL u W' L k
  | 0 => rfl
  | k + 1 => by simp only [maxL]; rw [maxL_congr h k, lack_congr h]
theorem thrTo_pos {u : Su} {b : Nat} {W : List Int} (h : ∀ k : Nat, 0 ≤ W.getD k 0) : ∀ k, 0 ≤ thrTo u b W k
  | 0 => Int.le_refl _
  | k + 1 => by have ih := thrTo_pos (u := u) (b := b) h k; have := h k; simp only [thrTo]; split <;> omega
theorem sumTo_100 {b : Nat} {L : List Int} (h : ∀ k : Nat, 0 ≤ L.getD k 0 ∧ L.getD k 0 ≤ 100) : ∀ k : Nat, 0 ≤ sumTo b L k ∧ sumTo b L k ≤ 100 * (k : Int)
  | 0 => by simp [sumTo]
  | k + 1 => by have ih := sumTo_100 (b := b) h k; have := h k; simp only [sumTo]; split <;> omega
theorem maxL_500 {u : Su} {W L : List Int} (hW : ∀ k : Nat, 0 ≤ W.getD k 0) (hL : ∀ k : Nat, 0 ≤ L.getD k 0 ∧ L.getD k 0 ≤ 100) (hl : L.length ≤ 5) : ∀ k, maxL u W L k ≤ 500
  | 0 => by simp [maxL]
  | k + 1 => by
    have ih := maxL_500 (u := u) hW hL hl k
    have h1 := sumTo_100 (b := k) hL L.length
    have h2 := thrTo_pos (u := u) (b := k) hW u.founts.length
    simp only [maxL, lack, sumB, thr]; omega
theorem moOk_not {u : Su} {W L : List Int} {id : Int} (h : ¬MoOk u W L id) : ∃ b, b < 2 ^ L.length ∧ 0 < lack u W L b ∧ ¬opnB u b id u.streets.length := by
  unfold MoOk at h
  obtain ⟨b, hb⟩ := Classical.not_forall.1 h
  obtain ⟨h1, h2⟩ := Classical.not_imp.1 hb
  obtain ⟨h3, h4⟩ := not_or.1 h2
  exact ⟨b, h1, by omega, h4⟩
/-- Some street of a set draws from there. -/
theorem opens_memb {u : Su} {b : Nat} {id : Int} : (∃ k, k < (memb b u.streets.length).length ∧ id ∈ (u.streets.getD ((memb b u.streets.length).getD k 0).toNat default).draws) ↔ opnB u b id u.streets.length := by
  have key : ∀ n, (∃ x ∈ memb b n, id ∈ (u.streets.getD x.toNat default).draws) ↔ opnB u b id n := by
    intro n
    induction n with
    | zero => simp [memb, opnB]
    | succ n ih =>
      simp only [opnB, memb]
      by_cases hb : hasI b n
      · rw [if_pos hb]
        constructor
        · rintro ⟨x, hx, h⟩
          rcases List.mem_append.1 hx with hx | hx
          · exact .inl (ih.1 ⟨x, hx, h⟩)
          · simp at hx; subst hx; exact .inr ⟨hb, by simpa using h⟩
        · rintro (h | ⟨_, h⟩)
          · obtain ⟨x, hx, h⟩ := ih.2 h
            exact ⟨x, List.mem_append_left _ hx, h⟩
          · exact ⟨(n : Int), List.mem_append_right _ (by simp), by simpa using h⟩
      · rw [if_neg hb]
        exact ⟨fun h => .inl (ih.1 h), fun h => ih.2 (h.elim (fun h => h) (fun h => absurd h.1 hb))⟩
  rw [← key]
  constructor
  · rintro ⟨k, hk, h⟩
    exact ⟨(memb b u.streets.length).getD k 0, by rw [List.getD_eq_getElem?_getD, List.getElem?_eq_getElem hk]; exact List.getElem_mem hk, h⟩
  · rintro ⟨x, hx, h⟩
    obtain ⟨k, hk, rfl⟩ := List.getElem_of_mem hx
    have e : (memb b u.streets.length).getD k 0 = (memb b u.streets.length)[k] := by simp [List.getD_eq_getElem?_getD, hk]
    exact ⟨k, hk, by rw [e]; exact h⟩
end Go.T

/- The walks of the package town: the most, leasts, which pint more helps. -/
namespace Go.Proofs.YtolcicaclflagaaDoor
open Go.X Go.S Go.T Go.RowKit
set_option maxHeartbeats 4000000 in
theorem most_any (u : Su) (fo so : Option Addr) (fc sc : Nat) (fa : Nat → FA) (sa : Nat → DA) (W : List Int) (no : Option Addr) (nn nc : Nat) (L : List Int) (lo : Option Addr) (lc : Nat) (hz : SizeP u) (hLn : L.length = u.streets.length) (hLs : Sm L) (hW : W.length = 4) (hWs : Sm W) (hl : LitP u) (w : World) (hs : SuAt w u fo so fa sa) (hlo : RowsAt w lo 1 (ones L)) :
    CallsR Tryd.prog 79 [.agg ⟨suW u fo so fc sc W (.slice no nn nc)⟩, .slice lo L.length lc] w (fun v _ => v = .int .i64 (flow u W L)) := by
  have hL0 := hl.1
  have hL1 := hl.2.1
  have hL2 := hl.2.2
  unfold SizeP at hz
  have hpw : (2 : Nat) ^ u.streets.length ≤ 32 := Nat.le_trans (Nat.pow_le_pow_right (by omega) hz.2) (by decide)
  have htt := totTo_in hLs L.length
  refine CallsR.of_SX (n := 35) (rs := [.tmp 4]) Tryd.func79 rfl rfl rfl rfl ?_
  show SX _ _ _ ⟨[(0, .agg ⟨suW u fo so fc sc W (.slice no nn nc)⟩), (1, .slice lo L.length lc)], [], []⟩
  refine SX.seq ?_
  refine SX.region ?_
  refine SXL.box rfl rfl ?_; intro b0
  refine SXL.box rfl rfl ?_; intro b1
  refine SXL.assign rfl ?_
  refine SXL.nil ?_
  refine thenQ.normal ?_
  refine SX.seq ?_
  refine SX.region ?_
  refine SXL.alloc zp_3 ?_; intro b2
  refine SXL.store 2 sz_3 rfl rfl rfl rfl rfl rfl ?_
  refine SXL.nil ?_
  refine thenQ.normal ?_
  refine SX.seq ?_
  refine SX.seq ?_
  refine SX.region ?_
  refine SXL.load1o 1 sh_33 rfl rfl rfl ?_
  refine SXL.len is_33 rfl ?_
  refine SXL.move rfl ?_
  refine SXL.nil ?_
  refine thenQ.normal ?_
  refine SX.block ?_
  refine SX.loopW (α := Nat) [2, 3, 4, 5, 10, 11] rfl (fun k => [(12, .int .i64 ((k : Int)))]) (fun k => [(b0, .cells ⟨suW u fo so fc sc W (.slice no nn nc)⟩ 78 (0, 0)), (b1, .cells ⟨[.slice lo L.length lc]⟩ 33 (0, 0)), (b2, .cells ⟨[.int .i64 (totTo L k)]⟩ 3 (0, 0))]) (fun k => []) (fun k => k ≤ L.length) (fun k => L.length - k) 0 (Nat.zero_le _) ⟨rfl, trivial⟩ rfl ?_
  rintro k hk
  have htk := totTo_in hLs k
  have hlk := hLs k
  refine SX.seq ?_
  refine SX.region ?_
  refine SXL.lss rfl rfl ?_
  refine SXL.nil ?_
  refine thenQ.normal ?_
  refine SX.seq ?_
  refine SX.condP rfl (fun c13 => ?_) (fun c13 => ?_)
  · refine SX.skip ?_
    refine thenQ.normal ?_
    refine SX.seq ?_
    refine SX.block ?_
    refine SX.seq ?_
    obtain ⟨ba, oa, ha, hm⟩ := oneI hlo (i := k) (by omega)
    refine SX.region ?_
    refine SXL.indexR el_33 rfl rfl ha (by omega) ?_
    refine SXL.load1 sh_3 rfl (hm _) ?_
    refine SXL.assign rfl ?_
    refine SXL.nil ?_
    refine thenQ.normal ?_
    refine SX.region ?_
    refine SXL.load1o 2 sh_3 rfl rfl rfl ?_
    refine SXL.move rfl ?_
    refine SXL.add rfl rfl (by omega) ?_
    refine SXL.store 2 sz_3 rfl rfl rfl rfl rfl rfl ?_
    refine SXL.nil ?_
    refine blockQ.normal ?_
    refine thenQ.normal ?_
    refine SX.region ?_
    refine SXL.add rfl rfl (by omega) ?_
    refine SXL.move rfl ?_
    refine SXL.nil ?_
    refine thenQ.normal ?_
    refine ⟨k + 1, MeetsW.mkP _ ⟨rfl, trivial⟩ ⟨rfl, rfl, rfl, rfl, rfl, rfl, trivial⟩ rfl, (by omega), (by omega)⟩
  · refine SX.exit ?_
    refine thenQ.exit ?_
    refine thenQ.exit ?_
    refine blockQ.exit ?_
    refine thenQ.normal ?_
    refine SX.seq ?_
    obtain rfl : k = L.length := by omega
    refine SX.region ?_
    refine SXL.load1o 2 sh_3 rfl rfl rfl ?_
    refine SXL.alloc zp_3 ?_; intro b3
    refine SXL.store 3 sz_3 rfl rfl rfl rfl rfl rfl ?_
    refine SXL.nil ?_
    refine thenQ.normal ?_
    refine SX.seq ?_
    refine SX.seq ?_
    refine SX.region ?_
    refine SXL.loadNo 0 sh_78 rfl rfl (welC_take hW) ?_
    refine SXL.callF (ItS u fo so fc sc (W) (.slice no nn nc)) fn_67 rfl (fun w hI => sets_any u fo so fc sc (W) (.slice no nn nc) w) ?_; rintro _ _ ⟨bi, rfl, rfl⟩
    refine SXL.nil ?_
    refine thenQ.normal ?_
    refine SX.block ?_
    refine SX.rangeFunc (f := 94) (nf := 79) (rs := []) rfl fn_94 Tryd.func94 rfl rfl rfl rfl ?_
    intro fn T r l ob hT hob
    refine SX.seq ?_
    refine SX.region ?_
    refine SXL.fieldAddr fp_78_0 rfl ?_
    refine SXL.fieldAddr fp_25_1 rfl ?_
    refine SXL.load1o 4 sh_23 rfl rfl rfl ?_
    refine SXL.len is_23 rfl ?_
    refine SXL.shlN rfl rfl (by omega) ?_
    refine SXL.move rfl ?_
    refine SXL.nil ?_
    refine thenQ.normal ?_
    refine SX.block ?_
    refine SX.loopW (α := Nat × Int) [0, 1, 16] rfl (fun ⟨b, m⟩ => [(17, .int .i64 ((b : Int)))]) (fun ⟨b, m⟩ => [(b0, .cells ⟨suW u fo so fc sc W (.slice no nn nc)⟩ 78 (0, 0)), (b1, .cells ⟨[.slice lo L.length lc]⟩ 33 (0, 0)), (b2, .cells ⟨[.int .i64 (totTo L L.length)]⟩ 3 (0, 0)), (b3, .cells ⟨[.int .i64 m]⟩ 3 (0, 0)), (bi, .cells ⟨suW u fo so fc sc W (.slice no nn nc)⟩ 78 (0, 0)), (r, .deferred (some [])), (l, ob .ready)]) (fun ⟨b, m⟩ => []) (fun ⟨b, m⟩ => b ≤ 2 ^ u.streets.length ∧ (m = flowTo u W L b)) (fun ⟨b, m⟩ => 2 ^ u.streets.length - b) (0, (totTo L L.length)) ⟨Nat.zero_le _, rfl⟩ ⟨rfl, trivial⟩ rfl ?_
    rintro ⟨b, m⟩ ⟨hb, hC⟩
    have hfl := flow_in (u := u) hLs hWs (by omega) hz.1.2 b
    have hsm := sumTo_in (b := b) hLs L.length
    refine SX.seq ?_
    refine SX.region ?_
    refine SXL.lss rfl rfl ?_
    refine SXL.nil ?_
    refine thenQ.normal ?_
    refine SX.seq ?_
    refine SX.condP rfl (fun c18 => ?_) (fun c18 => ?_)
    · refine SX.skip ?_
      refine thenQ.normal ?_
      refine SX.seq ?_
      refine SX.block ?_
      refine SX.seq ?_
      refine SX.region ?_
      refine SXL.move rfl ?_
      refine SXL.assign rfl ?_
      refine SXL.nil ?_
      refine thenQ.normal ?_
      refine SX.seq ?_
      refine SX.region ?_
      refine SXL.alloc zp_109 ?_; intro b7
      refine SXL.nil ?_
      refine thenQ.normal ?_
      refine SX.seq ?_
      refine SX.region ?_
      refine SXL.makeMap ?_; intro b8
      refine SXL.assign rfl ?_
      refine SXL.nil ?_
      refine thenQ.normal ?_
      refine SX.seq ?_
      refine SX.seq ?_
      refine SX.pad (Sl.nil.ent 3 []) rfl ?_
      refine SX.region ?_
      refine SXL.fieldAddr fp_78_0 rfl ?_
      refine SXL.fieldAddr fp_25_1 rfl ?_
      refine SXL.load1o 4 sh_23 rfl rfl rfl ?_
      refine SXL.len is_23 rfl ?_
      refine SXL.move rfl ?_
      refine SXL.nil ?_
      refine thenQ.normal ?_
      refine SX.block ?_
      refine SX.loopW (α := Nat × Sl × Nat × List Value × List (Int × Nat) × Nat) [0, 1, 3, 4, 5, 16, 17, 23, 24] rfl (fun ⟨i, q, n, c, ks, cl⟩ => [(25, .int .i64 ((i : Int)))]) (fun ⟨i, q, n, c, ks, cl⟩ => [(b0, .cells ⟨suW u fo so fc sc W (.slice no nn nc)⟩ 78 (0, 0)), (b1, .cells ⟨[.slice lo L.length lc]⟩ 33 (0, 0)), (b2, .cells ⟨[.int .i64 (totTo L L.length)]⟩ 3 (0, 0)), (b3, .cells ⟨[.int .i64 m]⟩ 3 (0, 0)), (bi, .cells ⟨suW u fo so fc sc W (.slice no nn nc)⟩ 78 (0, 0)), (r, .deferred (some [])), (l, ob .ready), (b7, .cells ⟨[q.val n, .int .i64 (0)]⟩ 109 (0, 0)), (b8, .map ⟨mkMap ks⟩ cl), q.ent 3 c]) (fun ⟨i, q, n, c, ks, cl⟩ => []) (fun ⟨i, q, n, c, ks, cl⟩ => i ≤ u.streets.length ∧ q.Ok n 1 c ∧ c = ints (memb b i) ∧ ∀ id, id ∈ mkeys ks ↔ opnB u b id i) (fun ⟨i, q, n, c, ks, cl⟩ => u.streets.length - i) (0, Sl.nil, 0, [], [], 0) ⟨Nat.zero_le _, .none _, rfl, fun id => by simp [mkeys, opnB]⟩ ⟨rfl, trivial⟩ rfl ?_
      rintro ⟨i, q, n, c, ks, cl⟩ ⟨hi, ho, rfl, hks⟩
      have hn := Ok.n ho
      have hml := memb_len b i
      refine SX.seq ?_
      refine SX.region ?_
      refine SXL.lss rfl rfl ?_
      refine SXL.nil ?_
      refine thenQ.normal ?_
      refine SX.seq ?_
      refine SX.condP rfl (fun c26 => ?_) (fun c26 => ?_)
      · refine SX.skip ?_
        refine thenQ.normal ?_
        refine SX.seq ?_
        refine SX.block ?_
        refine SX.seq ?_
        obtain ⟨bs, os, ha, hm⟩ := hs.street (i := i) (by omega)
        have hLk := hL2 i (by omega)
        have hbi : b / 2 ^ i ≤ b := Nat.div_le_self _ _
        refine SX.region ?_
        refine SXL.move rfl ?_
        refine SXL.indexR el_23 rfl rfl ha (by omega) ?_
        refine SXL.loadN sh_73 rfl (hm _) rfl ?_
        refine SXL.alloc zp_73 ?_; intro b10
        refine SXL.assign rfl ?_
        refine SXL.store 10 sz_73 rfl rfl rfl rfl rfl rfl ?_
        refine SXL.nil ?_
        refine thenQ.normal ?_
        refine SX.seq ?_
        refine SX.seq ?_
        refine SX.region ?_
        refine SXL.move rfl ?_
        refine SXL.move rfl ?_
        refine SXL.shrN rfl rfl (by omega) ?_
        refine SXL.and1 rfl rfl (by omega) ?_
        refine SXL.eqlI rfl rfl ?_
        refine SXL.nil ?_
        refine thenQ.normal ?_
        refine SX.condP rfl (fun c34 => ?_) (fun c34 => ?_)
        · refine SX.exit ?_
          refine thenQ.exit ?_
          refine blockQ.exit ?_
          refine thenQ.normal ?_
          refine SX.region ?_
          refine SXL.add rfl rfl (by omega) ?_
          refine SXL.move rfl ?_
          refine SXL.nil ?_
          refine thenQ.normal ?_
          refine ⟨(i + 1, _, _, _, _, _), MeetsW.mkP _ ⟨rfl, trivial⟩ ⟨rfl, rfl, rfl, rfl, rfl, rfl, rfl, rfl, rfl, trivial⟩ rfl, ?_, (show u.streets.length - (i + 1) < u.streets.length - i by omega)⟩
          refine ⟨by omega, ?_⟩
          first
            | exact ⟨o_39, by rw [memb, if_pos (show hasI b i by unfold hasI; omega), ints_snoc], opens_add hks (show hasI b i by unfold hasI; omega) (fun id => by rw [hks2 id, List.take_of_length_le (by omega)])⟩
            | exact ⟨ho, by rw [memb, if_neg (show ¬hasI b i by unfold hasI; omega)], opens_same hks (show ¬hasI b i by unfold hasI; omega)⟩
        · refine SX.skip ?_
          refine thenQ.normal ?_
          refine SX.seq ?_
          refine SX.region ?_
          refine SXL.fieldAddr fp_109_0 rfl ?_
          refine SXL.load1o 7 sh_33 rfl rfl rfl ?_
          refine SXL.move rfl ?_
          refine SXL.buildSlice et_33 zp_3 rfl rfl rfl rfl ?_; intro b11
          refine SXL.append 9 ap_33 rfl rfl ho rfl (.inr ⟨_, _, rfl, Mem.own (i := 11) rfl (takeAt_all _)⟩) rfl rfl ⟨by simp only [maxLen]; omega, by omega⟩ ?_; intro r_39 o_39
          refine SXL.fieldAddr fp_109_0 rfl ?_
          refine SXL.store 7 sz_33 rfl rfl rfl rfl rfl rfl ?_
          refine SXL.nil ?_
          refine thenQ.normal ?_
          refine SX.seq ?_
          refine SX.region ?_
          refine SXL.fieldAddr fp_73_3 rfl ?_
          refine SXL.load1o 10 sh_33 rfl rfl rfl ?_
          refine SXL.len is_33 rfl ?_
          refine SXL.move rfl ?_
          refine SXL.nil ?_
          refine thenQ.normal ?_
          refine SX.block ?_
          refine SX.loopW (α := Nat × List (Int × Nat) × Nat) [0, 1, 3, 4, 5, 16, 17, 23, 24, 25, 42, 43] rfl (fun ⟨j, ks2, cl2⟩ => [(44, .int .i64 ((j : Int)))]) (fun ⟨j, ks2, cl2⟩ => [(b0, .cells ⟨suW u fo so fc sc W (.slice no nn nc)⟩ 78 (0, 0)), (b1, .cells ⟨[.slice lo L.length lc]⟩ 33 (0, 0)), (b2, .cells ⟨[.int .i64 (totTo L L.length)]⟩ 3 (0, 0)), (b3, .cells ⟨[.int .i64 m]⟩ 3 (0, 0)), (bi, .cells ⟨suW u fo so fc sc W (.slice no nn nc)⟩ 78 (0, 0)), (r, .deferred (some [])), (l, ob .ready), (b7, .cells ⟨[r_39.val (n + 1), .int .i64 (0)]⟩ 109 (0, 0)), (b8, .map ⟨mkMap ks2⟩ cl2), r_39.ent 3 (ints (memb b i) ++ [.int .i64 (i : Int)]), (b10, .cells ⟨srC (u.streets.getD i default) (sa i)⟩ 73 (0, 0)), (b11, .cells ⟨[.int .i64 (i : Int)]⟩ 3 (0, 0))]) (fun ⟨j, ks2, cl2⟩ => []) (fun ⟨j, ks2, cl2⟩ => j ≤ (u.streets.getD i default).draws.length ∧ ∀ id, id ∈ mkeys ks2 ↔ (id ∈ mkeys ks ∨ id ∈ (u.streets.getD i default).draws.take j)) (fun ⟨j, ks2, cl2⟩ => (u.streets.getD i default).draws.length - j) (0, ks, cl) ⟨Nat.zero_le _, fun id => by simp⟩ ⟨rfl, trivial⟩ rfl ?_
          rintro ⟨j, ks2, cl2⟩ ⟨hj, hks2⟩
          refine SX.seq ?_
          refine SX.region ?_
          refine SXL.lss rfl rfl ?_
          refine SXL.nil ?_
          refine thenQ.normal ?_
          refine SX.seq ?_
          refine SX.condP rfl (fun c45 => ?_) (fun c45 => ?_)
          · refine SX.skip ?_
            refine thenQ.normal ?_
            refine SX.seq ?_
            refine SX.block ?_
            refine SX.seq ?_
            obtain ⟨bd, od, had, hmd⟩ := oneI (hs.draws i (by omega)) (i := j) (by omega)
            refine SX.region ?_
            refine SXL.indexR el_33 rfl rfl had (by omega) ?_
            refine SXL.load1 sh_3 rfl (hmd _) ?_
            refine SXL.assign rfl ?_
            refine SXL.nil ?_
            refine thenQ.normal ?_
            refine SX.region ?_
            refine SXL.move rfl ?_
            refine SXL.move rfl ?_
            refine SXL.mapPut 8 mk_94 rfl rfl rfl rfl ?_
            refine SXL.nil ?_
            refine blockQ.normal ?_
            refine thenQ.normal ?_
            refine SX.region ?_
            refine SXL.add rfl rfl (by omega) ?_
            refine SXL.move rfl ?_
            refine SXL.nil ?_
            refine thenQ.normal ?_
            refine ⟨(j + 1, _, _), MeetsW.mkP _ ⟨rfl, trivial⟩ ⟨rfl, rfl, rfl, rfl, rfl, rfl, rfl, rfl, rfl, rfl, rfl, rfl, trivial⟩ rfl, ⟨by omega, fun id => by rw [mput_keys, hks2 id, mem_take_snoc (show j < (u.streets.getD i default).draws.length by omega)]; exact ⟨fun h => h.elim (fun h => .inr (.inr h)) (fun h => h.elim .inl (fun h => .inr (.inl h))), fun h => h.elim (fun h => .inr (.inl h)) (fun h => h.elim (fun h => .inr (.inr h)) .inl)⟩⟩, (show (u.streets.getD i default).draws.length - (j + 1) < (u.streets.getD i default).draws.length - j by omega)⟩
          · refine SX.exit ?_
            refine thenQ.exit ?_
            refine thenQ.exit ?_
            refine blockQ.exit ?_
            refine blockQ.normal ?_
            refine thenQ.normal ?_
            refine SX.region ?_
            refine SXL.add rfl rfl (by omega) ?_
            refine SXL.move rfl ?_
            refine SXL.nil ?_
            refine thenQ.normal ?_
            refine ⟨(i + 1, _, _, _, _, _), MeetsW.mkP _ ⟨rfl, trivial⟩ ⟨rfl, rfl, rfl, rfl, rfl, rfl, rfl, rfl, rfl, trivial⟩ rfl, ?_, (show u.streets.length - (i + 1) < u.streets.length - i by omega)⟩
            refine ⟨by omega, ?_⟩
            first
              | exact ⟨o_39, by rw [memb, if_pos (show hasI b i by unfold hasI; omega), ints_snoc], opens_add hks (show hasI b i by unfold hasI; omega) (fun id => by rw [hks2 id, List.take_of_length_le (by omega)])⟩
              | exact ⟨ho, by rw [memb, if_neg (show ¬hasI b i by unfold hasI; omega)], opens_same hks (show ¬hasI b i by unfold hasI; omega)⟩
      · refine SX.exit ?_
        refine thenQ.exit ?_
        refine thenQ.exit ?_
        refine blockQ.exit ?_
        refine thenQ.normal ?_
        refine SX.seq ?_
        refine SX.seq ?_
        obtain rfl : i = u.streets.length := by omega
        refine SX.region ?_
        refine SXL.fieldAddr fp_78_0 rfl ?_
        refine SXL.fieldAddr fp_25_0 rfl ?_
        refine SXL.load1o 4 sh_22 rfl rfl rfl ?_
        refine SXL.len is_22 rfl ?_
        refine SXL.move rfl ?_
        refine SXL.nil ?_
        refine thenQ.normal ?_
        refine SX.block ?_
        refine SX.loopW (α := Nat × Int) [0, 1, 4, 5, 16, 17, 54, 55] rfl (fun ⟨k, th⟩ => [(56, .int .i64 ((k : Int)))]) (fun ⟨k, th⟩ => [(b0, .cells ⟨suW u fo so fc sc W (.slice no nn nc)⟩ 78 (0, 0)), (b1, .cells ⟨[.slice lo L.length lc]⟩ 33 (0, 0)), (b2, .cells ⟨[.int .i64 (totTo L L.length)]⟩ 3 (0, 0)), (b3, .cells ⟨[.int .i64 m]⟩ 3 (0, 0)), (bi, .cells ⟨suW u fo so fc sc W (.slice no nn nc)⟩ 78 (0, 0)), (r, .deferred (some [])), (l, ob .ready), (b7, .cells ⟨[q.val n, .int .i64 (th)]⟩ 109 (0, 0)), (b8, .map ⟨mkMap ks⟩ cl), q.ent 3 (ints (memb b u.streets.length))]) (fun ⟨k, th⟩ => []) (fun ⟨k, th⟩ => k ≤ u.founts.length ∧ th = thrTo u b W k) (fun ⟨k, th⟩ => u.founts.length - k) (0, 0) ⟨Nat.zero_le _, rfl⟩ ⟨rfl, trivial⟩ rfl ?_
        rintro ⟨k, th⟩ ⟨hk, rfl⟩
        have hth := thrTo_in (u := u) (b := b) hWs k
        have hwk := hWs k
        refine SX.seq ?_
        refine SX.region ?_
        refine SXL.lss rfl rfl ?_
        refine SXL.nil ?_
        refine thenQ.normal ?_
        refine SX.seq ?_
        refine SX.condP rfl (fun c57 => ?_) (fun c57 => ?_)
        · refine SX.skip ?_
          refine thenQ.normal ?_
          refine SX.seq ?_
          refine SX.block ?_
          refine SX.seq ?_
          obtain ⟨bf, of, haf, hmf⟩ := hs.fount (i := k) (by omega)
          refine SX.region ?_
          refine SXL.move rfl ?_
          refine SXL.indexR el_22 rfl rfl haf (by omega) ?_
          refine SXL.loadN sh_70 rfl (hmf _) rfl ?_
          refine SXL.alloc zp_70 ?_; intro b10
          refine SXL.assign rfl ?_
          refine SXL.store 10 sz_70 rfl rfl rfl rfl rfl rfl ?_
          refine SXL.nil ?_
          refine thenQ.normal ?_
          refine SX.seq ?_
          refine SX.region ?_
          refine SXL.move rfl ?_
          refine SXL.fieldAddr fp_70_0 rfl ?_
          refine SXL.load1o 10 sh_3 rfl rfl rfl ?_
          refine SXL.mapGet 8 mk_94 rfl rfl rfl ?_
          refine SXL.nil ?_
          refine thenQ.normal ?_
          refine SX.condP rfl (fun c64 => ?_) (fun c64 => ?_)
          · refine SX.draw 8 (by kernel_rfl) (by kernel_rfl) {} ?_
            refine SXA.take 0 8 rfl (by kernel_rfl) rfl ?_
            refine SXL.fieldAddr fp_109_1 rfl ?_
            refine SXL.load1o 7 sh_3 rfl rfl rfl ?_
            refine SXL.move rfl ?_
            refine SXL.fieldAddr fp_78_1 rfl ?_
            refine SXL.indexA el_76 rfl rfl (by omega) ?_
            refine SXL.load1o 4 sh_3 rfl rfl (welC_at (i := k) (by simp) (by omega)) ?_
            refine SXL.add rfl rfl (by omega) ?_
            refine SXL.fieldAddr fp_109_1 rfl ?_
            refine SXL.nil ⟨rfl, rfl, rfl, ?_⟩
            refine SXA.done (by kernel_rfl) ?_
            refine SXL.store 7 sz_3 rfl rfl rfl rfl rfl rfl ?_
            refine SXL.nil ?_
            refine blockQ.normal ?_
            refine thenQ.normal ?_
            refine SX.region ?_
            refine SXL.add rfl rfl (by omega) ?_
            refine SXL.move rfl ?_
            refine SXL.nil ?_
            refine thenQ.normal ?_
            refine ⟨(k + 1, _), MeetsW.mkP _ ⟨rfl, trivial⟩ ⟨rfl, rfl, rfl, rfl, rfl, rfl, rfl, rfl, trivial⟩ rfl, ⟨by omega, ?_⟩, (show u.founts.length - (k + 1) < u.founts.length - k by omega)⟩
            first
              | (rw [thrTo, if_pos ((hks _).1 c64)])
              | (rw [thrTo, if_neg (fun h => c64 ((hks _).2 h))])
          · refine SX.skip ?_
            refine blockQ.normal ?_
            refine thenQ.normal ?_
            refine SX.region ?_
            refine SXL.add rfl rfl (by omega) ?_
            refine SXL.move rfl ?_
            refine SXL.nil ?_
            refine thenQ.normal ?_
            refine ⟨(k + 1, _), MeetsW.mkP _ ⟨rfl, trivial⟩ ⟨rfl, rfl, rfl, rfl, rfl, rfl, rfl, rfl, trivial⟩ rfl, ⟨by omega, ?_⟩, (show u.founts.length - (k + 1) < u.founts.length - k by omega)⟩
            first
              | (rw [thrTo, if_pos ((hks _).1 c64)])
              | (rw [thrTo, if_neg (fun h => c64 ((hks _).2 h))])
        · refine SX.exit ?_
          refine thenQ.exit ?_
          refine thenQ.exit ?_
          refine blockQ.exit ?_
          refine thenQ.normal ?_
          refine SX.seq ?_
          obtain rfl : k = u.founts.length := by omega
          refine SX.region ?_
          refine SXL.move rfl ?_
          refine SXL.loadNo 7 sh_109 rfl rfl rfl ?_
          refine SXL.yield hT hob 6 rfl rfl rfl rfl rfl ?_
          have hn := Ok.n ho
          subst hn
          refine SX.region ?_
          refine SXL.alloc zp_109 ?_; intro b10
          refine SXL.store 10 sz_109 rfl rfl rfl rfl rfl rfl ?_
          refine SXL.nil ?_
          refine ⟨rfl, ?_⟩
          refine SX.block ?_
          refine SX.draw 10 (by kernel_rfl) (by kernel_rfl) {} ?_
          refine SXA.take 0 10 rfl (by kernel_rfl) rfl ?_
          refine SXL.load1o 3 sh_3 rfl rfl rfl ?_
          refine SXL.load1o 2 sh_3 rfl rfl rfl ?_
          refine SXL.loadNo 10 sh_109 rfl rfl rfl ?_
          refine SXL.load1o 1 sh_33 rfl rfl rfl ?_
          refine SXL.call1 (.int .i64 (sumIx (memb b u.streets.length) (L) (memb b u.streets.length).length)) fn_68 rfl (fun w hI => of_any (memb b u.streets.length) (L) (thrTo u b (W) u.founts.length) q.addr lo q.cap lc (by have := memb_len b u.streets.length; omega) (fun x hx => by have := memb_in b _ x hx; omega) hLs w (slOnes hI ho (i := 9) rfl) (hlo.inv hI)) ?_
          refine SXL.sub rfl rfl (by rw [sumB_memb hLn]; unfold sumB; omega) ?_
          refine SXL.fieldAddr fp_109_1 rfl ?_
          refine SXL.load1o 10 sh_3 rfl rfl rfl ?_
          refine SXL.add rfl rfl (by rw [sumB_memb hLn]; have := thrTo_in (u := u) (b := b) hWs u.founts.length; unfold sumB; omega) ?_
          refine SXL.min rfl rfl ?_
          refine SXL.nil ⟨rfl, rfl, rfl, ?_⟩
          refine SXA.done (by kernel_rfl) ?_
          refine SXL.store 3 sz_3 rfl rfl rfl rfl rfl rfl ?_
          refine SXL.nil ?_
          refine blockQ.normal ?_
          refine ⟨rfl, ?_⟩
          refine SXL.not rfl ?_
          refine SXL.nil ?_
          refine thenQ.normal ?_
          refine SX.condP rfl (fun c77 => ?_) (fun c77 => ?_)
          · exfalso; exact c77 trivial
          refine SX.skip ?_
          refine blockQ.normal ?_
          refine thenQ.normal ?_
          refine SX.region ?_
          refine SXL.add rfl rfl (by omega) ?_
          refine SXL.move rfl ?_
          refine SXL.nil ?_
          refine thenQ.normal ?_
          refine ⟨(b + 1, _), MeetsW.mkP _ ⟨rfl, trivial⟩ ⟨rfl, rfl, rfl, trivial⟩ rfl, ⟨by omega, by rw [hC, sumB_memb hLn]; rfl⟩, (show 2 ^ u.streets.length - (b + 1) < 2 ^ u.streets.length - b by omega)⟩
    · refine SX.exit ?_
      refine thenQ.exit ?_
      refine thenQ.exit ?_
      refine blockQ.exit ?_
      refine retQ.zeroN ?_
      refine ⟨6, rfl, ?_⟩
      refine blockQ.normal ?_
      refine thenQ.normal ?_
      refine SX.seq ?_
      have hbe : b = 2 ^ u.streets.length := by omega
      refine SX.region ?_
      refine SXL.load1o 3 sh_3 rfl rfl rfl ?_
      refine SXL.assign rfl ?_
      refine SXL.nil ?_
      refine thenQ.normal ?_
      refine SX.ret ?_
      refine retQ.unmark 5 rfl ?_
      refine retQ.one (ResAt.tmp rfl) ?_
      rw [hC, hbe, flow, hLn]
set_option maxHeartbeats 1000000 in
theorem tmost_any (u : Su) (fo so : Option Addr) (fc sc : Nat) (fa : Nat → FA) (sa : Nat → DA) (week : Int) (hl : LitP u) (w : World) (hg : Gt w) (hs : SuAt w u fo so fa sa) :
    CallsR Tryd.prog 29 [.agg ⟨[.slice fo u.founts.length fc, .slice so u.streets.length sc]⟩, .int .i64 week] w (fun v _ => v = .tuple ⟨[.agg ⟨[.int .i64 (moLo u week), .int .i64 (moHi u week)]⟩, .int .i64 (askT u week True 0)]⟩) := by
  refine CallsR.of_SX (n := 38) (rs := [.cell 4 55, .tmp 5]) Tryd.func29 rfl rfl rfl rfl ?_
  show SX _ _ _ ⟨[(0, .agg ⟨[.slice fo u.founts.length fc, .slice so u.streets.length sc]⟩), (1, .int .i64 week)], [], []⟩
  refine SX.seq ?_
  refine SX.region ?_
  refine SXL.box rfl rfl ?_; intro b0
  refine SXL.alloc zp_55 ?_; intro b1
  refine SXL.assign rfl ?_
  refine SXL.nil ?_
  refine thenQ.normal ?_
  refine SX.seq ?_
  refine SX.region ?_
  refine SXL.loadNo 0 sh_25 rfl rfl rfl ?_
  refine SXL.move rfl ?_
  refine SXL.callF (DrR u fo so fc sc (week) (false) (askT u (week) (True) (0))) fn_42 rfl (fun w hI => tasked_any u fo so fc sc fa sa (week) (false) (True) (0) (fun h => absurd trivial h) hl w (hg.inv hI) (hs.inv hI)) ?_; rintro _ _ ⟨C, r, N, hC1, hC2, ho, rfl, rfl, hok⟩
  refine SXL.move rfl ?_
  refine SXL.extract rfl rfl ?_
  refine SXL.extract rfl rfl ?_
  refine SXL.alloc zp_78 ?_; intro b3
  refine SXL.store 3 sz_78 rfl rfl rfl rfl hC1 (putAt_all _ _ hC1) ?_ hC2
  refine SXL.assign rfl ?_
  refine SXL.nil ?_
  refine thenQ.normal ?_
  refine SX.seq ?_
  refine SX.seq ?_
  refine SX.region ?_
  refine SXL.move rfl ?_
  refine SXL.neqI rfl rfl ?_
  refine SXL.nil ?_
  refine thenQ.normal ?_
  refine SX.condP rfl (fun c16 => ?_) (fun c16 => ?_)
  · refine SX.seq ?_
    refine SX.region ?_
    refine SXL.buildS pl_55 zp_55 rfl rfl ?_
    refine SXL.move rfl ?_
    refine SXL.store 1 sz_55 rfl rfl rfl rfl rfl rfl ?_
    refine SXL.assign rfl ?_
    refine SXL.nil ?_
    refine thenQ.normal ?_
    refine SX.ret ?_
    refine thenQ.ret ?_
    refine retQ.dead [] rfl ?_
    refine retQ.two (ResAt.cellNo 1 sh_55 rfl rfl rfl) (ResAt.tmp rfl) ?_
    rw [moLo, moHi, if_neg c16, if_neg c16]
  · refine SX.skip ?_
    refine thenQ.normal ?_
    refine SX.seq ?_
    have heA := Classical.not_not.1 c16
    refine SX.region ?_
    refine SXL.loadNo 0 sh_25 rfl rfl rfl ?_
    refine SXL.move rfl ?_
    refine SXL.callF (DrR u fo so fc sc (week) (true) (askT u (week) (True) (0))) fn_42 rfl (fun w hI => tasked_any u fo so fc sc fa sa (week) (true) (True) (0) (fun h => absurd trivial h) hl w (hg.inv hI) (hs.inv hI)) ?_; rintro _ _ ⟨C2, r2, N2, hD1, hD2, ho2, rfl, rfl, hok2⟩
    refine SXL.move rfl ?_
    refine SXL.extract rfl rfl ?_
    refine SXL.extract rfl rfl ?_
    refine SXL.alloc zp_78 ?_; intro b5
    refine SXL.store 5 sz_78 rfl rfl rfl rfl hD1 (putAt_all _ _ hD1) ?_ hD2
    refine SXL.assign rfl ?_
    refine SXL.nil ?_
    refine thenQ.normal ?_
    refine SX.seq ?_
    refine SX.seq ?_
    refine SX.region ?_
    refine SXL.move rfl ?_
    refine SXL.neqI rfl rfl ?_
    refine SXL.nil ?_
    refine thenQ.normal ?_
    refine SX.condP rfl (fun c26 => ?_) (fun c26 => ?_)
    · refine SX.seq ?_
      refine SX.region ?_
      refine SXL.buildS pl_55 zp_55 rfl rfl ?_
      refine SXL.move rfl ?_
      refine SXL.store 1 sz_55 rfl rfl rfl rfl rfl rfl ?_
      refine SXL.assign rfl ?_
      refine SXL.nil ?_
      refine thenQ.normal ?_
      refine SX.ret ?_
      refine thenQ.ret ?_
      refine retQ.dead [] rfl ?_
      refine retQ.two (ResAt.cellNo 1 sh_55 rfl rfl rfl) (ResAt.tmp rfl) ?_
      exact absurd heA c26
    · refine SX.skip ?_
      refine thenQ.normal ?_
      refine SX.seq ?_
      have he2 := Classical.not_not.1 c26
      obtain ⟨hv, hw, hp, ht⟩ := askT_ok (fun h => absurd trivial h) he2
      obtain ⟨rfl, rfl⟩ := hok2 he2
      obtain ⟨rfl, rfl⟩ := hok heA
      have hz := hv.1
      have hz2 := hz
      unfold SizeP at hz2
      have hWl : ∀ best, (waterL u week best).length ≤ 4 := fun best => by rw [waterL_len]; omega
      have hP : ∀ best, (pad4 (waterL u week best)).length = 4 := fun best => pad4_len (hWl best)
      have hPs : ∀ best, Sm (pad4 (waterL u week best)) := fun best => pad_sm (water_sm hv ht hw best)
      refine SX.draw 9 (by kernel_rfl) (by kernel_rfl) {} ?_
      refine SXA.take 0 9 rfl (by kernel_rfl) rfl ?_
      refine SXL.loadNo 3 sh_78 rfl rfl (takeAt_full (k := 7) hC1) ?_
      refine SXL.fieldAddr fp_78_2 rfl ?_
      refine SXL.load1o 5 sh_33 rfl rfl (welC_need (hP _)) ?_
      refine SXL.call1 (.int .i64 (flow u (pad4 (waterL u week false)) (needs u true))) fn_79 rfl (fun w hI => most_any u fo so fc sc fa sa (pad4 (waterL u week false)) _ _ _ (needs u true) r2.addr r2.cap hz (needs_len u _) (needs_sm hv _) (hP _) (hPs _) hl w (hs.inv hI) (slOnes hI ho2 (i := 4) rfl)) ?_
      refine SXL.loadNo 5 sh_78 rfl rfl (takeAt_full (k := 7) hD1) ?_
      refine SXL.fieldAddr fp_78_2 rfl ?_
      refine SXL.load1o 3 sh_33 rfl rfl (welC_need (hP _)) ?_
      refine SXL.call1 (.int .i64 (flow u (pad4 (waterL u week true)) (needs u false))) fn_79 rfl (fun w hI => most_any u fo so fc sc fa sa (pad4 (waterL u week true)) _ _ _ (needs u false) r.addr r.cap hz (needs_len u _) (needs_sm hv _) (hP _) (hPs _) hl w (hs.inv hI) (slOnes hI ho (i := 2) rfl)) ?_
      refine SXL.buildS pl_55 zp_55 rfl rfl ?_
      refine SXL.nil ⟨rfl, rfl, rfl, ?_⟩
      refine SXA.done (by kernel_rfl) ?_
      refine SXL.store 1 sz_55 rfl rfl rfl rfl rfl rfl ?_
      refine SXL.assign rfl ?_
      refine SXL.nil ?_
      refine thenQ.normal ?_
      refine SX.ret ?_
      refine retQ.dead [] rfl ?_
      refine retQ.two (ResAt.cellNo 1 sh_55 rfl rfl rfl) (ResAt.tmp rfl) ?_
      rw [moLo, moHi, if_pos he2, if_pos he2, he2, flow_congr (pad4_at _), flow_congr (pad4_at _)]
theorem tleasts_any (u : Su) (fo so : Option Addr) (fc sc : Nat) (fa : Nat → FA) (sa : Nat → DA) (hl : LitP u) (w : World) (hs : SuAt w u fo so fa sa) :
    CallsR Tryd.prog 55 [.agg ⟨[.slice fo u.founts.length fc, .slice so u.streets.length sc]⟩] w (IsI (leasts u)) := by
  have hL0 := hl.1
  have hL1 := hl.2.1
  have hL2 := hl.2.2
  refine CallsR.of_SX (n := 20) (rs := [.tmp 2]) Tryd.func55 rfl rfl rfl rfl ?_
  show SX _ _ _ ⟨[(0, .agg ⟨[.slice fo u.founts.length fc, .slice so u.streets.length sc]⟩)], [], []⟩
  refine SX.seq ?_
  refine SX.region ?_
  refine SXL.box rfl rfl ?_; intro b0
  refine SXL.assign rfl ?_
  refine SXL.nil ?_
  refine thenQ.normal ?_
  refine SX.seq ?_
  refine SX.pad (Sl.nil.ent 3 []) rfl ?_
  refine SX.region ?_
  refine SXL.assign rfl ?_
  refine SXL.nil ?_
  refine thenQ.normal ?_
  refine SX.seq ?_
  refine SX.seq ?_
  refine SX.region ?_
  refine SXL.fieldAddr fp_25_1 rfl ?_
  refine SXL.load1o 0 sh_23 rfl rfl rfl ?_
  refine SXL.len is_23 rfl ?_
  refine SXL.move rfl ?_
  refine SXL.nil ?_
  refine thenQ.normal ?_
  refine SX.block ?_
  refine SX.loopW (α := Nat × Sl × Nat × List Value) [2, 7, 8] rfl (fun ⟨k, q, n, c⟩ => [(9, .int .i64 ((k : Int))), (3, q.val n)]) (fun ⟨k, q, n, c⟩ => [(b0, .cells ⟨[.slice fo u.founts.length fc, .slice so u.streets.length sc]⟩ 25 (0, 0)), q.ent 3 c]) (fun ⟨k, q, n, c⟩ => []) (fun ⟨k, q, n, c⟩ => k ≤ u.streets.length ∧ q.Ok n 1 c ∧ n = k ∧ c = ints ((leasts u).take k)) (fun ⟨k, q, n, c⟩ => u.streets.length - k) (0, Sl.nil, 0, []) ⟨Nat.zero_le _, .none _, rfl, rfl⟩ ⟨rfl, rfl, trivial⟩ rfl ?_
  rintro ⟨k, q, n, c⟩ ⟨hk, ho, rfl, rfl⟩
  refine SX.seq ?_
  refine SX.region ?_
  refine SXL.lss rfl rfl ?_
  refine SXL.nil ?_
  refine thenQ.normal ?_
  refine SX.seq ?_
  refine SX.condP rfl (fun c10 => ?_) (fun c10 => ?_)
  · refine SX.skip ?_
    refine thenQ.normal ?_
    refine SX.seq ?_
    refine SX.block ?_
    refine SX.seq ?_
    obtain ⟨b, o, ha, hm⟩ := hs.street (i := n) (by omega)
    refine SX.region ?_
    refine SXL.indexR el_23 rfl rfl ha (by omega) ?_
    refine SXL.loadN sh_73 rfl (hm _) rfl ?_
    refine SXL.alloc zp_73 ?_; intro b2
    refine SXL.store 2 sz_73 rfl rfl rfl rfl rfl rfl ?_
    refine SXL.nil ?_
    refine thenQ.normal ?_
    refine SX.region ?_
    refine SXL.move rfl ?_
    refine SXL.fieldAddr fp_73_2 rfl ?_
    refine SXL.load1o 2 sh_3 rfl rfl rfl ?_
    refine SXL.buildSlice et_33 zp_3 rfl rfl rfl rfl ?_; intro b3
    refine SXL.append 1 ap_33 rfl rfl ho rfl (.inr ⟨_, _, rfl, Mem.own (i := 3) rfl (takeAt_all _)⟩) rfl rfl ⟨by simp only [maxLen]; omega, by omega⟩ ?_; intro r_17 o_17
    refine SXL.assign rfl ?_
    refine SXL.nil ?_
    refine blockQ.normal ?_
    refine thenQ.normal ?_
    refine SX.region ?_
    refine SXL.add rfl rfl (by omega) ?_
    refine SXL.move rfl ?_
    refine SXL.nil ?_
    refine thenQ.normal ?_
    refine ⟨(n + 1, _, _, _), MeetsW.mkP _ ⟨rfl, rfl, trivial⟩ ⟨rfl, rfl, rfl, trivial⟩ rfl, ?_, (show u.streets.length - (n + 1) < u.streets.length - n by omega)⟩
    have e3 := take_snocI (l := leasts u) (k := n) (by rw [leasts_len]; omega)
    rw [leasts_at (by omega)] at e3
    exact ⟨by omega, o_17, rfl, by rw [e3, ints_snoc]; rfl⟩
  · refine SX.exit ?_
    refine thenQ.exit ?_
    refine thenQ.exit ?_
    refine blockQ.exit ?_
    refine thenQ.normal ?_
    refine SX.seq ?_
    refine SX.region ?_
    refine SXL.move rfl ?_
    refine SXL.assign rfl ?_
    refine SXL.nil ?_
    refine thenQ.normal ?_
    refine SX.ret ?_
    refine retQ.sel [1] rfl rfl ?_
    refine retQ.one (ResAt.tmp rfl) ?_
    obtain rfl : n = u.streets.length := by omega
    have e4 : (leasts u).take u.streets.length = leasts u := List.take_of_length_le (by rw [leasts_len]; omega)
    rw [e4] at ho ⊢
    exact ⟨q, by rw [leasts_len]; exact ho, by rw [leasts_len], rfl⟩
theorem least1_any (u : Su) (fo so : Option Addr) (fc sc : Nat) (fa : Nat → FA) (sa : Nat → DA) (week : Int) (best : Bool) (r : Sl) (b : Nat) (hv : SuP u) (ht : TrueS u) (hw : Wi week 0 (long u - 1)) (hl : LitP u) (w : World) (hs : SuAt w u fo so fa sa) (hb0 : ∀ j v, ([.slice fo u.founts.length fc, .slice so u.streets.length sc] : List Value)[j]? = some v → w.cell? ⟨b, 0 + j, none⟩ = some v) :
    CallsR Tryd.prog 81 [.agg ⟨suW u fo so fc sc (pad4 (waterL u week (best))) (r.val (needs u (best)).length)⟩, .pointer (some ⟨b, 0, none⟩)] w (fun v _ => v = .bool (decide (LeaP u week best))) := by
  have hz := hv.1
  have hz2 := hz
  unfold SizeP at hz2
  have hWl : ∀ best, (waterL u week best).length ≤ 4 := fun best => by rw [waterL_len]; omega
  have hP : ∀ best, (pad4 (waterL u week best)).length = 4 := fun best => pad4_len (hWl best)
  have hPs : ∀ best, Sm (pad4 (waterL u week best)) := fun best => pad_sm (water_sm hv ht hw best)
  refine CallsR.of_SX (n := 8) (rs := [.tmp 3]) Tryd.func81 rfl rfl rfl rfl ?_
  show SX _ _ _ ⟨[(0, .agg ⟨suW u fo so fc sc (pad4 (waterL u week (best))) (r.val (needs u (best)).length)⟩), (1, .pointer (some ⟨b, 0, none⟩))], [], []⟩
  refine SX.seq ?_
  refine SX.region ?_
  refine SXL.box rfl rfl ?_; intro b0
  refine SXL.assign rfl ?_
  refine SXL.nil ?_
  refine thenQ.normal ?_
  refine SX.seq ?_
  refine SX.draw 5 (by kernel_rfl) (by kernel_rfl) {} ?_
  refine SXA.take 0 2 rfl (by kernel_rfl) rfl ?_
  refine SXL.loadNo 0 sh_78 rfl rfl (welC_take (hP _)) ?_
  refine SXL.loadN sh_25 rfl (Mem.out hb0) rfl ?_
  refine SXL.nil ⟨rfl, rfl, rfl, ?_⟩
  refine SXA.all [2] (by kernel_rfl) rfl ⟨⟨?_, rfl⟩, trivial⟩
  refine (show SXL _ _ [_] _ _ from ?_)
  refine SXL.callF (IsI (leasts u)) fn_55 rfl (fun w hI => tleasts_any u fo so fc sc fa sa hl w (hs.inv hI)) ?_; rintro _ _ ⟨ql, ol, rfl, rfl⟩
  refine SXL.nil (stepQ.mk _ rfl rfl ?_)
  refine SXA.take 3 2 rfl (by kernel_rfl) rfl ?_
  refine SXL.call1 (.bool (decide (CanP u (pad4 (waterL u week best)) (leasts u)))) fn_48 rfl (fun w hI => can_any u fo so fc sc fa sa _ _ _ _ (leasts u) ql.addr ql.cap hz (leasts_len u) (leasts_sm hv) (hP _) (hPs _) hl w (hs.inv hI) (slOnes hI ol (i := 1) rfl)) ?_
  refine SXL.assign rfl ?_
  refine SXL.nil ⟨rfl, rfl, rfl, ?_⟩
  refine SXA.done (by kernel_rfl) ?_
  refine SXL.nil ?_
  refine thenQ.normal ?_
  refine SX.ret ?_
  refine retQ.one (ResAt.tmp rfl) ?_
  exact congrArg Value.bool (decide_eq_decide.2 canP_pad)
theorem tleast_any (u : Su) (fo so : Option Addr) (fc sc : Nat) (fa : Nat → FA) (sa : Nat → DA) (week : Int) (hl : LitP u) (w : World) (hg : Gt w) (hs : SuAt w u fo so fa sa) :
    CallsR Tryd.prog 31 [.agg ⟨[.slice fo u.founts.length fc, .slice so u.streets.length sc]⟩, .int .i64 week] w (fun v _ => v = .tuple ⟨[.int .u8 (knT (askT u week True 0) (LeaP u week false) (LeaP u week true)), .int .i64 (askT u week True 0)]⟩) := by
  refine CallsR.of_SX (n := 12) (rs := [.tmp 4, .tmp 5]) Tryd.func31 rfl rfl rfl rfl ?_
  show SX _ _ _ ⟨[(0, .agg ⟨[.slice fo u.founts.length fc, .slice so u.streets.length sc]⟩), (1, .int .i64 week)], [], []⟩
  refine SX.seq ?_
  refine SX.region ?_
  refine SXL.box rfl rfl ?_; intro b0
  refine SXL.assign rfl ?_
  refine SXL.assign rfl ?_
  refine SXL.nil ?_
  refine thenQ.normal ?_
  refine SX.seq ?_
  refine SX.region ?_
  refine SXL.loadNo 0 sh_25 rfl rfl rfl ?_
  refine SXL.move rfl ?_
  refine SXL.makeFunc rfl rfl ?_
  refine SXL.call1 (.tuple ⟨[.int .u8 (knT (askT u week True 0) (LeaP u week false) (LeaP u week true)), .int .i64 (askT u week True 0)]⟩) fn_46 rfl (fun w hI => tknown_any u fo so fc sc fa sa week 81 [] [.pointer (some ⟨b0, 0, none⟩)] (LeaP u week) fn_81 hl w (hg.inv hI) (hs.inv hI) (fun best w' r hb hv ht hw hr => least1_any u fo so fc sc fa sa week best r b0 hv ht hw hl w' ((hs.inv hI).below hb) (fun j v hj => by have := ownCell (hI.ext hb) (i := 0) rfl hj; simpa using this))) ?_
  refine SXL.extract rfl rfl ?_
  refine SXL.extract rfl rfl ?_
  refine SXL.assign rfl ?_
  refine SXL.assign rfl ?_
  refine SXL.nil ?_
  refine thenQ.normal ?_
  refine SX.ret ?_
  refine retQ.two (ResAt.tmp rfl) (ResAt.tmp rfl) ?_
  first | rfl | assumption
set_option maxHeartbeats 1000000 in
theorem thelps_any (u : Su) (fo so : Option Addr) (fc sc : Nat) (fa : Nat → FA) (sa : Nat → DA) (week : Int) (hl : LitP u) (w : World) (hg : Gt w) (hs : SuAt w u fo so fa sa) :
    CallsR Tryd.prog 33 [.agg ⟨[.slice fo u.founts.length fc, .slice so u.streets.length sc]⟩, .int .i64 week] w (LeR (helL u week) (askT u week True 0)) := by
  refine CallsR.of_SX (n := 55) (rs := [.tmp 4, .tmp 5]) Tryd.func33 rfl rfl rfl rfl ?_
  show SX _ _ _ ⟨[(0, .agg ⟨[.slice fo u.founts.length fc, .slice so u.streets.length sc]⟩), (1, .int .i64 week)], [], []⟩
  refine SX.seq ?_
  refine SX.region ?_
  refine SXL.box rfl rfl ?_; intro b0
  refine SXL.assign rfl ?_
  refine SXL.assign rfl ?_
  refine SXL.nil ?_
  refine thenQ.normal ?_
  refine SX.seq ?_
  refine SX.region ?_
  refine SXL.loadNo 0 sh_25 rfl rfl rfl ?_
  refine SXL.move rfl ?_
  refine SXL.callF (DrR u fo so fc sc (week) (false) (askT u (week) (True) (0))) fn_42 rfl (fun w hI => tasked_any u fo so fc sc fa sa (week) (false) (True) (0) (fun h => absurd trivial h) hl w (hg.inv hI) (hs.inv hI)) ?_; rintro _ _ ⟨C, r, N, hC1, hC2, ho, rfl, rfl, hok⟩
  refine SXL.move rfl ?_
  refine SXL.extract rfl rfl ?_
  refine SXL.extract rfl rfl ?_
  refine SXL.alloc zp_78 ?_; intro b2
  refine SXL.store 2 sz_78 rfl rfl rfl rfl hC1 (putAt_all _ _ hC1) ?_ hC2
  refine SXL.assign rfl ?_
  refine SXL.nil ?_
  refine thenQ.normal ?_
  refine SX.seq ?_
  refine SX.seq ?_
  refine SX.region ?_
  refine SXL.move rfl ?_
  refine SXL.neqI rfl rfl ?_
  refine SXL.nil ?_
  refine thenQ.normal ?_
  refine SX.condP rfl (fun c20 => ?_) (fun c20 => ?_)
  · refine SX.seq ?_
    refine SX.region ?_
    refine SXL.move rfl ?_
    refine SXL.assign rfl ?_
    refine SXL.assign rfl ?_
    refine SXL.nil ?_
    refine thenQ.normal ?_
    refine SX.ret ?_
    refine thenQ.ret ?_
    refine retQ.dead [Sl.nil.ent 3 []] rfl ?_
    refine retQ.two (ResAt.tmp rfl) (ResAt.tmp rfl) ?_
    exact LeR.errs (if_neg c20) rfl
  · refine SX.skip ?_
    refine thenQ.normal ?_
    refine SX.seq ?_
    have he := Classical.not_not.1 c20
    obtain ⟨hv, hw, hp, ht⟩ := askT_ok (fun h => absurd trivial h) he
    obtain ⟨rfl, rfl⟩ := hok he
    have hz := hv.1
    have hz2 := hz
    unfold SizeP at hz2
    have hWl : ∀ best, (waterL u week best).length ≤ 4 := fun best => by rw [waterL_len]; omega
    have hP : ∀ best, (pad4 (waterL u week best)).length = 4 := fun best => pad4_len (hWl best)
    have hPs : ∀ best, Sm (pad4 (waterL u week best)) := fun best => pad_sm (water_sm hv ht hw best)
    refine SX.pad (Sl.nil.ent 3 []) rfl ?_
    refine SX.region ?_
    refine SXL.assign rfl ?_
    refine SXL.nil ?_
    refine thenQ.normal ?_
    refine SX.seq ?_
    refine SX.region ?_
    refine SXL.loadNo 2 sh_78 rfl rfl (takeAt_full (k := 7) hC1) ?_
    refine SXL.fieldAddr fp_78_2 rfl ?_
    refine SXL.load1o 2 sh_33 rfl rfl (welC_need (hP _)) ?_
    refine SXL.call1 (.int .i64 (flow u (pad4 (waterL u week false)) (needs u false))) fn_79 rfl (fun w hI => most_any u fo so fc sc fa sa (pad4 (waterL u week false)) _ _ _ (needs u false) r.addr r.cap hz (needs_len u _) (needs_sm hv _) (hP _) (hPs _) hl w (hs.inv hI) (slOnes hI ho (i := 1) rfl)) ?_
    refine SXL.assign rfl ?_
    refine SXL.nil ?_
    refine thenQ.normal ?_
    refine SX.seq ?_
    refine SX.seq ?_
    refine SX.region ?_
    refine SXL.fieldAddr fp_25_0 rfl ?_
    refine SXL.load1o 0 sh_22 rfl rfl rfl ?_
    refine SXL.len is_22 rfl ?_
    refine SXL.move rfl ?_
    refine SXL.nil ?_
    refine thenQ.normal ?_
    refine SX.block ?_
    refine SX.loopW (α := Nat × Sl × Nat × List Value) [4, 5, 6, 9, 27, 28] rfl (fun ⟨k, q, n, c⟩ => [(29, .int .i64 ((k : Int))), (8, q.val n)]) (fun ⟨k, q, n, c⟩ => [(b0, .cells ⟨[.slice fo u.founts.length fc, .slice so u.streets.length sc]⟩ 25 (0, 0)), r.ent 3 (ints (needs u false)), (b2, .cells ⟨suW u fo so fc sc (pad4 (waterL u week false)) (r.val (needs u false).length)⟩ 78 (0, 0)), q.ent 3 c]) (fun ⟨k, q, n, c⟩ => []) (fun ⟨k, q, n, c⟩ => k ≤ u.founts.length ∧ q.Ok n 1 c ∧ c = ints (helTo u (waterL u week false) (needs u false) k)) (fun ⟨k, q, n, c⟩ => u.founts.length - k) (0, Sl.nil, 0, []) ⟨Nat.zero_le _, .none _, rfl⟩ ⟨rfl, rfl, trivial⟩ rfl ?_
    rintro ⟨k, q, n, c⟩ ⟨hk, hq, rfl⟩
    have hn := Ok.n hq
    have hhl := helTo_len u (waterL u week false) (needs u false) k
    refine SX.seq ?_
    refine SX.region ?_
    refine SXL.lss rfl rfl ?_
    refine SXL.nil ?_
    refine thenQ.normal ?_
    refine SX.seq ?_
    refine SX.condP rfl (fun c30 => ?_) (fun c30 => ?_)
    · refine SX.skip ?_
      refine thenQ.normal ?_
      refine SX.seq ?_
      refine SX.block ?_
      refine SX.seq ?_
      obtain ⟨b, o, ha, hm⟩ := hs.fount (i := k) (by omega)
      have hwk := water_in hv ht hw false k
      rw [← pad4_at] at hwk
      have hSs : Sm ((pad4 (waterL u week false)).set k ((pad4 (waterL u week false)).getD k 0 + 1)) := set_sm (fun j => by rw [pad4_at]; exact water_in hv ht hw false j) (by omega)
      have efl : flow u ((pad4 (waterL u week false)).set k ((pad4 (waterL u week false)).getD k 0 + 1)) (needs u false) = flow u ((waterL u week false).set k ((waterL u week false).getD k 0 + 1)) (needs u false) := flow_congr (fun j => by rw [pad4_at, pad_set_at _ (by rw [waterL_len]; omega)])
      refine SX.region ?_
      refine SXL.move rfl ?_
      refine SXL.indexR el_22 rfl rfl ha (by omega) ?_
      refine SXL.loadN sh_70 rfl (hm _) rfl ?_
      refine SXL.alloc zp_70 ?_; intro b4
      refine SXL.assign rfl ?_
      refine SXL.store 4 sz_70 rfl rfl rfl rfl rfl rfl ?_
      refine SXL.nil ?_
      refine thenQ.normal ?_
      refine SX.seq ?_
      refine SX.region ?_
      refine SXL.loadNo 2 sh_78 rfl rfl (takeAt_full (k := 7) (welC_len (hP _))) ?_
      refine SXL.alloc zp_78 ?_; intro b5
      refine SXL.store 5 sz_78 rfl rfl rfl rfl (welC_len (hP _)) (putAt_all _ _ (welC_len (hP _))) ?_ (welC_one rfl rfl rfl)
      refine SXL.nil ?_
      refine thenQ.normal ?_
      refine SX.seq ?_
      refine SX.region ?_
      refine SXL.move rfl ?_
      refine SXL.fieldAddr fp_78_1 rfl ?_
      refine SXL.indexA el_76 rfl rfl (by omega) ?_
      refine SXL.load1o 5 sh_3 rfl rfl (welC_at (i := k) (by simp) (by rw [hP]; omega)) ?_
      refine SXL.add rfl rfl (by omega) ?_
      refine SXL.fieldAddr fp_78_1 rfl ?_
      refine SXL.indexA el_76 rfl rfl (by omega) ?_
      refine SXL.store 5 sz_3 rfl rfl rfl rfl rfl (welC_put (i := k) (by simp) (by rw [hP]; omega)) ?_
      refine SXL.nil ?_
      refine thenQ.normal ?_
      refine SX.seq ?_
      refine SX.region ?_
      refine SXL.loadNo 5 sh_78 rfl rfl (welC_take (by simp [hP])) ?_
      refine SXL.fieldAddr fp_78_2 rfl ?_
      refine SXL.load1o 2 sh_33 rfl rfl (welC_need (hP _)) ?_
      refine SXL.call1 (.int .i64 (flow u ((pad4 (waterL u week false)).set k ((pad4 (waterL u week false)).getD k 0 + 1)) (needs u false))) fn_79 rfl (fun w hI => most_any u fo so fc sc fa sa ((pad4 (waterL u week false)).set k ((pad4 (waterL u week false)).getD k 0 + 1)) _ _ _ (needs u false) r.addr r.cap hz (needs_len u _) (needs_sm hv _) (by simp [hP]) hSs hl w (hs.inv hI) (slOnes hI ho (i := 1) rfl)) ?_
      refine SXL.move rfl ?_
      refine SXL.gtr rfl rfl ?_
      refine SXL.nil ?_
      refine thenQ.normal ?_
      refine SX.condP rfl (fun c47 => ?_) (fun c47 => ?_)
      · refine SX.region ?_
        refine SXL.move rfl ?_
        refine SXL.fieldAddr fp_70_0 rfl ?_
        refine SXL.load1o 4 sh_3 rfl rfl rfl ?_
        refine SXL.buildSlice et_33 zp_3 rfl rfl rfl rfl ?_; intro b6
        refine SXL.append 3 ap_33 rfl rfl hq rfl (.inr ⟨_, _, rfl, Mem.own (i := 6) rfl (takeAt_all _)⟩) rfl rfl ⟨by simp only [maxLen]; omega, by omega⟩ ?_; intro r_52 o_52
        refine SXL.assign rfl ?_
        refine SXL.nil ?_
        refine blockQ.normal ?_
        refine thenQ.normal ?_
        refine SX.region ?_
        refine SXL.add rfl rfl (by omega) ?_
        refine SXL.move rfl ?_
        refine SXL.nil ?_
        refine thenQ.normal ?_
        refine ⟨(k + 1, _, _, _), MeetsW.mkP _ ⟨rfl, rfl, trivial⟩ ⟨rfl, rfl, rfl, rfl, rfl, rfl, trivial⟩ rfl, ?_, (show u.founts.length - (k + 1) < u.founts.length - k by omega)⟩
        rw [efl, flow_congr (pad4_at _)] at c47
        first
          | exact ⟨by omega, o_52, by rw [helTo, if_pos c47, ints_snoc]; rfl⟩
          | exact ⟨by omega, hq, by rw [helTo, if_neg c47]⟩
      · refine SX.skip ?_
        refine blockQ.normal ?_
        refine thenQ.normal ?_
        refine SX.region ?_
        refine SXL.add rfl rfl (by omega) ?_
        refine SXL.move rfl ?_
        refine SXL.nil ?_
        refine thenQ.normal ?_
        refine ⟨(k + 1, _, _, _), MeetsW.mkP _ ⟨rfl, rfl, trivial⟩ ⟨rfl, rfl, rfl, rfl, rfl, rfl, trivial⟩ rfl, ?_, (show u.founts.length - (k + 1) < u.founts.length - k by omega)⟩
        rw [efl, flow_congr (pad4_at _)] at c47
        first
          | exact ⟨by omega, o_52, by rw [helTo, if_pos c47, ints_snoc]; rfl⟩
          | exact ⟨by omega, hq, by rw [helTo, if_neg c47]⟩
    · refine SX.exit ?_
      refine thenQ.exit ?_
      refine thenQ.exit ?_
      refine blockQ.exit ?_
      refine thenQ.normal ?_
      refine SX.seq ?_
      refine SX.region ?_
      refine SXL.move rfl ?_
      refine SXL.assign rfl ?_
      refine SXL.assign rfl ?_
      refine SXL.nil ?_
      refine thenQ.normal ?_
      refine SX.ret ?_
      refine retQ.sel [3] rfl rfl ?_
      refine retQ.two (ResAt.tmp rfl) (ResAt.tmp rfl) ?_
      obtain rfl : k = u.founts.length := by omega
      have e1 : helL u week = helTo u (waterL u week false) (needs u false) u.founts.length := if_pos he
      subst hn; rw [e1, he]; exact ⟨q, hq, rfl, rfl⟩
theorem indexInts (l : List Int) (x : Int) (ao : Option Addr) (c : Nat) (hl2 : l.length ≤ 1000000) (w : World) (h : RowsAt w ao 1 (ones l)) :
    CallsR Tryd.prog 99 [.slice ao l.length c, .int .i64 x] w (fun v _ => v = .int .i64 (idxF (fun k => x = l.getD k 0) l.length)) := by
  refine CallsR.of_SX (n := 19) (rs := [.tmp 4]) Tryd.func99 rfl rfl rfl rfl ?_
  show SX _ _ _ ⟨[(0, .slice ao l.length c), (1, .int .i64 x)], [], []⟩
  refine SX.seq ?_
  refine SX.region ?_
  refine SXL.assign rfl ?_
  refine SXL.nil ?_
  refine thenQ.normal ?_
  refine SX.seq ?_
  refine SX.seq ?_
  refine SX.region ?_
  refine SXL.move rfl ?_
  refine SXL.len is_33 rfl ?_
  refine SXL.move rfl ?_
  refine SXL.nil ?_
  refine thenQ.normal ?_
  refine SX.block ?_
  refine SX.loopG (α := Nat) [0, 1, 4, 7] rfl (fun k => [(8, .int .i64 ((k : Int)))]) (fun k => []) (fun k => k ≤ l.length ∧ ∀ i, i < k → ¬x = l.getD i 0) (fun k => l.length - k) 0 ⟨Nat.zero_le _, fun _ h => absurd h (Nat.not_lt_zero _)⟩ ⟨rfl, trivial⟩ rfl ?_
  rintro k ⟨hk, hall⟩
  refine SX.seq ?_
  refine SX.region ?_
  refine SXL.lss rfl rfl ?_
  refine SXL.nil ?_
  refine thenQ.normal ?_
  refine SX.seq ?_
  refine SX.condP rfl (fun c9 => ?_) (fun c9 => ?_)
  · refine SX.skip ?_
    refine thenQ.normal ?_
    refine SX.seq ?_
    refine SX.block ?_
    refine SX.seq ?_
    refine SX.region ?_
    refine SXL.move rfl ?_
    refine SXL.assign rfl ?_
    refine SXL.nil ?_
    refine thenQ.normal ?_
    refine SX.seq ?_
    obtain ⟨b, o, ha, hm⟩ := oneI h (i := k) (by omega)
    refine SX.region ?_
    refine SXL.move rfl ?_
    refine SXL.move rfl ?_
    refine SXL.move rfl ?_
    refine SXL.indexR el_33 rfl rfl ha (by omega) ?_
    refine SXL.load1 sh_3 rfl (hm _) ?_
    refine SXL.eqlI rfl rfl ?_
    refine SXL.nil ?_
    refine thenQ.normal ?_
    refine SX.condP rfl (fun c16 => ?_) (fun c16 => ?_)
    · refine SX.seq ?_
      refine SX.region ?_
      refine SXL.move rfl ?_
      refine SXL.assign rfl ?_
      refine SXL.nil ?_
      refine thenQ.normal ?_
      refine SX.ret ?_
      refine blockQ.ret ?_
      refine thenQ.ret ?_
      refine thenQ.ret ?_
      refine blockQ.ret ?_
      refine thenQ.ret ?_
      refine retQ.one (ResAt.tmp rfl) ?_
      exact congrArg (Value.int .i64) (idxF_some (by omega) c16 hall).symm
    · refine SX.skip ?_
      refine blockQ.normal ?_
      refine thenQ.normal ?_
      refine SX.region ?_
      refine SXL.add rfl rfl (by omega) ?_
      refine SXL.move rfl ?_
      refine SXL.nil ?_
      refine thenQ.normal ?_
      refine ⟨k + 1, Meets.mk _ ⟨rfl, trivial⟩ ⟨rfl, rfl, rfl, rfl, trivial⟩ rfl, ?_, (by omega)⟩
      refine ⟨by omega, fun i hi => ?_⟩
      by_cases e : i = k
      · subst e; exact c16
      · exact hall i (by omega)
  · refine SX.exit ?_
    refine thenQ.exit ?_
    refine thenQ.exit ?_
    refine blockQ.exit ?_
    refine thenQ.normal ?_
    refine SX.seq ?_
    refine SX.region ?_
    refine SXL.assign rfl ?_
    refine SXL.nil ?_
    refine thenQ.normal ?_
    refine SX.ret ?_
    refine retQ.one (ResAt.tmp rfl) ?_
    exact congrArg (Value.int .i64) (idxF_none fun i hi => hall i (by omega)).symm
theorem containsInts (l : List Int) (x : Int) (ao : Option Addr) (c : Nat) (hl2 : l.length ≤ 1000000) (w : World) (h : RowsAt w ao 1 (ones l)) :
    CallsR Tryd.prog 84 [.slice ao l.length c, .int .i64 x] w (fun v _ => v = .bool (decide (x ∈ l))) := by
  refine CallsR.of_SX (n := 9) (rs := [.tmp 4]) Tryd.func84 rfl rfl rfl rfl ?_
  show SX _ _ _ ⟨[(0, .slice ao l.length c), (1, .int .i64 x)], [], []⟩
  refine SX.seq ?_
  refine SX.region ?_
  refine SXL.assign rfl ?_
  refine SXL.nil ?_
  refine thenQ.normal ?_
  refine SX.seq ?_
  refine SX.region ?_
  refine SXL.move rfl ?_
  refine SXL.move rfl ?_
  refine SXL.call1 (.int .i64 (idxF (fun k => x = l.getD k 0) l.length)) fn_99 rfl (fun w hI => indexInts l x ao c hl2 w (h.inv hI)) ?_
  refine SXL.geq rfl rfl ?_
  refine SXL.assign rfl ?_
  refine SXL.nil ?_
  refine thenQ.normal ?_
  refine SX.ret ?_
  refine retQ.one (ResAt.tmp rfl) ?_
  exact congrArg Value.bool (decide_eq_decide.2 (by rw [idxF_nonneg]; exact ⟨fun ⟨k, hk, h⟩ => by subst h; rw [List.getD_eq_getElem?_getD, List.getElem?_eq_getElem hk]; exact List.getElem_mem hk, fun h => by obtain ⟨k, hk, h⟩ := List.getElem_of_mem h; exact ⟨k, hk, by subst h; rw [List.getD_eq_getElem?_getD, List.getElem?_eq_getElem hk]; rfl⟩⟩))
theorem more1_any (u : Su) (fo so : Option Addr) (fc sc : Nat) (fa : Nat → FA) (sa : Nat → DA) (i id : Int) (b c : Nat) (hi : 0 ≤ i ∧ i < (u.streets.length : Int)) (hl : LitP u) (w : World) (hs : SuAt w u fo so fa sa) (hb0 : ∀ j v, ([.slice fo u.founts.length fc, .slice so u.streets.length sc] : List Value)[j]? = some v → w.cell? ⟨b, 0 + j, none⟩ = some v) (hc0 : w.cell? ⟨c, 0, none⟩ = some (.int .i64 id)) :
    CallsR Tryd.prog 83 [.int .i64 i, .pointer (some ⟨b, 0, none⟩), .pointer (some ⟨c, 0, none⟩)] w (fun v _ => v = .bool (decide (id ∈ (u.streets.getD i.toNat default).draws))) := by
  have hL0 := hl.1
  have hL1 := hl.2.1
  have hL2 := hl.2.2
  obtain ⟨bs, os, ha, hm⟩ := hs.street (i := i.toNat) (by omega)
  have hLk := hL2 i.toNat (by omega)
  refine CallsR.of_SX (n := 13) (rs := [.tmp 4]) Tryd.func83 rfl rfl rfl rfl ?_
  show SX _ _ _ ⟨[(0, .int .i64 i), (1, .pointer (some ⟨b, 0, none⟩)), (2, .pointer (some ⟨c, 0, none⟩))], [], []⟩
  refine SX.seq ?_
  refine SX.region ?_
  refine SXL.assign rfl ?_
  refine SXL.nil ?_
  refine thenQ.normal ?_
  refine SX.seq ?_
  refine SX.draw 9 (by kernel_rfl) (by kernel_rfl) {} ?_
  refine SXA.take 0 9 rfl (by kernel_rfl) rfl ?_
  refine SXL.fieldAddr fp_25_1 rfl ?_
  refine SXL.load1 sh_23 rfl (Mem.out1 (hb0 1 _ rfl)) ?_
  refine SXL.move rfl ?_
  refine SXL.indexR el_23 rfl rfl ha (by omega) ?_
  refine SXL.fieldAddr fp_73_3 rfl ?_
  refine SXL.load1 sh_33 rfl ((hm _).sub (j := 4) (k := 1) rfl) ?_
  refine SXL.load1 sh_3 rfl (Mem.out1 hc0) ?_
  refine SXL.call1 (.bool (decide (id ∈ (u.streets.getD i.toNat default).draws))) fn_84 rfl (fun w hI => containsInts (u.streets.getD i.toNat default).draws id (sa i.toNat).1 (sa i.toNat).2 (by omega) w ((hs.draws i.toNat (by omega)).inv hI)) ?_
  refine SXL.assign rfl ?_
  refine SXL.nil ⟨rfl, rfl, rfl, ?_⟩
  refine SXA.done (by kernel_rfl) ?_
  refine SXL.nil ?_
  refine thenQ.normal ?_
  refine SX.ret ?_
  refine retQ.one (ResAt.tmp rfl) ?_
  first | rfl | assumption
theorem mo_err {u : Su} {week id : Int} (h : askT u week (0 ≤ fountI u id) 93 ≠ 0) : Value.tuple ⟨[.int .i64 0, .int .i64 (askT u week (0 ≤ fountI u id) 93)]⟩ = .tuple ⟨[.int .i64 (moV u week id), .int .i64 (moE u week id)]⟩ := by
  have e : moE u week id = askT u week (0 ≤ fountI u id) 93 := if_pos h
  rw [moV, e, if_neg h]
theorem mo_none {u : Su} {week id : Int} {b : Nat} (he : askT u week (0 ≤ fountI u id) 93 = 0) (hN : (needs u false).length = u.streets.length) (hb : b < 2 ^ u.streets.length) (h1 : 0 < lack u (pad4 (waterL u week false)) (needs u false) b) (h2 : ¬opnB u b id u.streets.length) :
    Value.tuple ⟨[.int .i64 0, .int .i64 6]⟩ = .tuple ⟨[.int .i64 (moV u week id), .int .i64 (moE u week id)]⟩ := by
  have e : moE u week id = 6 := by
    rw [moE, if_neg (fun h => h he), if_neg]
    intro h
    rw [lack_congr (pad4_at _)] at h1
    rcases h b (by rw [hN]; exact hb) with h3 | h3
    · omega
    · exact h2 h3
  rw [moV, e]; rfl
theorem mo_some {u : Su} {week id : Int} {m : Int} (he : askT u week (0 ≤ fountI u id) 93 = 0) (hN : (needs u false).length = u.streets.length) (hm : m = maxL u (pad4 (waterL u week false)) (needs u false) (2 ^ u.streets.length))
    (h : ∀ d, d < 2 ^ u.streets.length → lack u (pad4 (waterL u week false)) (needs u false) d ≤ 0 ∨ opnB u d id u.streets.length) :
    Value.tuple ⟨[.int .i64 m, .int .i64 0]⟩ = .tuple ⟨[.int .i64 (moV u week id), .int .i64 (moE u week id)]⟩ := by
  have e : moE u week id = 0 := by
    rw [moE, if_neg (fun h => h he), if_pos]
    intro b hb
    have := h b (by rw [← hN]; exact hb)
    rwa [lack_congr (pad4_at _)] at this
  rw [moV, e, if_pos rfl, hm, maxL_congr (pad4_at _)]
set_option maxHeartbeats 4000000 in
theorem tmore_any (u : Su) (fo so : Option Addr) (fc sc : Nat) (fa : Nat → FA) (sa : Nat → DA) (week id : Int) (hl : LitP u) (w : World) (hg : Gt w) (hs : SuAt w u fo so fa sa) :
    CallsR Tryd.prog 35 [.agg ⟨[.slice fo u.founts.length fc, .slice so u.streets.length sc]⟩, .int .i64 week, .int .i64 id] w (fun v _ => v = .tuple ⟨[.int .i64 (moV u week id), .int .i64 (moE u week id)]⟩) := by
  refine CallsR.of_SX (n := 49) (rs := [.cell 6 3, .cell 7 28]) Tryd.func35 rfl rfl rfl rfl ?_
  show SX _ _ _ ⟨[(0, .agg ⟨[.slice fo u.founts.length fc, .slice so u.streets.length sc]⟩), (1, .int .i64 week), (2, .int .i64 id)], [], []⟩
  refine SX.seq ?_
  refine SX.region ?_
  refine SXL.box rfl rfl ?_; intro b0
  refine SXL.box rfl rfl ?_; intro b1
  refine SXL.alloc zp_3 ?_; intro b2
  refine SXL.alloc zp_28 ?_; intro b3
  refine SXL.nil ?_
  refine thenQ.normal ?_
  refine SX.seq ?_
  refine SX.region ?_
  refine SXL.loadNo 0 sh_25 rfl rfl rfl ?_
  refine SXL.load1o 1 sh_3 rfl rfl rfl ?_
  refine SXL.call1 (.int .i64 (fountI u id)) fn_61 rfl (fun w hI => tfount_any u fo so fc sc fa sa id hl w (hs.inv hI)) ?_
  refine SXL.assign rfl ?_
  refine SXL.nil ?_
  refine thenQ.normal ?_
  refine SX.seq ?_
  refine SX.region ?_
  refine SXL.loadNo 0 sh_25 rfl rfl rfl ?_
  refine SXL.move rfl ?_
  refine SXL.move rfl ?_
  refine SXL.geq rfl rfl ?_
  refine SXL.callF (DrR u fo so fc sc (week) (false) (askT u (week) (0 ≤ fountI u id) (93))) fn_42 rfl (fun w hI => tasked_any u fo so fc sc fa sa (week) (false) (0 ≤ fountI u id) (93) (fun _ => by decide) hl w (hg.inv hI) (hs.inv hI)) ?_; rintro _ _ ⟨C, rn, N, hC1, hC2, hrn, rfl, rfl, hok⟩
  refine SXL.move rfl ?_
  refine SXL.extract rfl rfl ?_
  refine SXL.extract rfl rfl ?_
  refine SXL.alloc zp_78 ?_; intro b5
  refine SXL.store 5 sz_78 rfl rfl rfl rfl hC1 (putAt_all _ _ hC1) ?_ hC2
  refine SXL.assign rfl ?_
  refine SXL.nil ?_
  refine thenQ.normal ?_
  refine SX.seq ?_
  refine SX.seq ?_
  refine SX.region ?_
  refine SXL.move rfl ?_
  refine SXL.neqI rfl rfl ?_
  refine SXL.nil ?_
  refine thenQ.normal ?_
  refine SX.condP rfl (fun c26 => ?_) (fun c26 => ?_)
  · refine SX.seq ?_
    refine SX.region ?_
    refine SXL.move rfl ?_
    refine SXL.store 2 sz_3 rfl rfl rfl rfl rfl rfl ?_
    refine SXL.store 3 sz_28 rfl rfl rfl rfl rfl rfl ?_
    refine SXL.nil ?_
    refine thenQ.normal ?_
    refine SX.ret ?_
    refine thenQ.ret ?_
    refine retQ.two (ResAt.cell1o 2 sh_3 rfl rfl rfl) (ResAt.cell1o 3 sh_28 rfl rfl rfl) ?_
    exact mo_err c26
  · refine SX.skip ?_
    refine thenQ.normal ?_
    refine SX.seq ?_
    have he := Classical.not_not.1 c26
    obtain ⟨hv, hw, hp, ht⟩ := askT_ok (fun _ => by decide) he
    obtain ⟨rfl, rfl⟩ := hok he
    have hz := hv.1
    have hz2 := hz
    unfold SizeP at hz2
    have hWl : ∀ best, (waterL u week best).length ≤ 4 := fun best => by rw [waterL_len]; omega
    have hP : ∀ best, (pad4 (waterL u week best)).length = 4 := fun best => pad4_len (hWl best)
    have hPs : ∀ best, Sm (pad4 (waterL u week best)) := fun best => pad_sm (water_sm hv ht hw best)
    have hLL := hl
    obtain ⟨hL0, hL1, hL2⟩ := hLL
    have hNl := needs_len u false
    have hW := hP false
    have hWs := hPs false
    have hz := hz2
    have hpw : (2 : Nat) ^ u.streets.length ≤ 32 := Nat.le_trans (Nat.pow_le_pow_right (by omega) hz.2) (by decide)
    refine SX.region ?_
    refine SXL.alloc zp_3 ?_; intro b6
    refine SXL.store 6 sz_3 rfl rfl rfl rfl rfl rfl ?_
    refine SXL.nil ?_
    refine thenQ.normal ?_
    refine SX.seq ?_
    refine SX.seq ?_
    refine SX.region ?_
    refine SXL.loadNo 5 sh_78 rfl rfl (takeAt_full (k := 7) hC1) ?_
    refine SXL.callF (ItS u fo so fc sc (pad4 (waterL u week false)) (rn.val (needs u false).length)) fn_67 rfl (fun w hI => sets_any u fo so fc sc (pad4 (waterL u week false)) (rn.val (needs u false).length) w) ?_; rintro _ _ ⟨bi, rfl, rfl⟩
    refine SXL.nil ?_
    refine thenQ.normal ?_
    refine SX.block ?_
    refine SX.rangeFuncX (f := 94) (nf := 79) (rs := []) rfl fn_94 Tryd.func94 rfl rfl rfl rfl ?_
    intro fn T r l ob oj hT hob hoj
    refine SX.seq ?_
    refine SX.region ?_
    refine SXL.fieldAddr fp_78_0 rfl ?_
    refine SXL.fieldAddr fp_25_1 rfl ?_
    refine SXL.load1o 7 sh_23 rfl rfl rfl ?_
    refine SXL.len is_23 rfl ?_
    refine SXL.shlN rfl rfl (by omega) ?_
    refine SXL.move rfl ?_
    refine SXL.nil ?_
    refine thenQ.normal ?_
    refine SX.block ?_
    refine SX.loopW (α := Nat × Int) [0, 1, 16] rfl (fun ⟨b, m⟩ => [(17, .int .i64 ((b : Int)))]) (fun ⟨b, m⟩ => [(b0, .cells ⟨[.slice fo u.founts.length fc, .slice so u.streets.length sc]⟩ 25 (0, 0)), (b1, .cells ⟨[.int .i64 id]⟩ 3 (0, 0)), (b2, .cells ⟨[.int .i64 0]⟩ 3 (0, 0)), (b3, .cells ⟨[.int .i64 0]⟩ 28 (0, 0)), rn.ent 3 (ints (needs u false)), (b5, .cells ⟨suW u fo so fc sc (pad4 (waterL u week false)) (rn.val (needs u false).length)⟩ 78 (0, 0)), (b6, .cells ⟨[.int .i64 m]⟩ 3 (0, 0)), (bi, .cells ⟨suW u fo so fc sc (pad4 (waterL u week false)) (rn.val (needs u false).length)⟩ 78 (0, 0)), (r, .deferred (some [])), (l, ob .ready)]) (fun ⟨b, m⟩ => []) (fun ⟨b, m⟩ => b ≤ 2 ^ u.streets.length ∧ (m = maxL u (pad4 (waterL u week false)) (needs u false) b ∧ ∀ d, d < b → lack u (pad4 (waterL u week false)) (needs u false) d ≤ 0 ∨ opnB u d id u.streets.length)) (fun ⟨b, m⟩ => 2 ^ u.streets.length - b) (0, 0) ⟨Nat.zero_le _, ⟨rfl, fun d hd => absurd hd (Nat.not_lt_zero _)⟩⟩ ⟨rfl, trivial⟩ rfl ?_
    rintro ⟨b, m⟩ ⟨hb, hC⟩
    refine SX.seq ?_
    refine SX.region ?_
    refine SXL.lss rfl rfl ?_
    refine SXL.nil ?_
    refine thenQ.normal ?_
    refine SX.seq ?_
    refine SX.condP rfl (fun c18 => ?_) (fun c18 => ?_)
    · refine SX.skip ?_
      refine thenQ.normal ?_
      refine SX.seq ?_
      refine SX.block ?_
      refine SX.seq ?_
      refine SX.region ?_
      refine SXL.move rfl ?_
      refine SXL.assign rfl ?_
      refine SXL.nil ?_
      refine thenQ.normal ?_
      refine SX.seq ?_
      refine SX.region ?_
      refine SXL.alloc zp_109 ?_; intro b10
      refine SXL.nil ?_
      refine thenQ.normal ?_
      refine SX.seq ?_
      refine SX.region ?_
      refine SXL.makeMap ?_; intro b11
      refine SXL.assign rfl ?_
      refine SXL.nil ?_
      refine thenQ.normal ?_
      refine SX.seq ?_
      refine SX.seq ?_
      refine SX.pad (Sl.nil.ent 3 []) rfl ?_
      refine SX.region ?_
      refine SXL.fieldAddr fp_78_0 rfl ?_
      refine SXL.fieldAddr fp_25_1 rfl ?_
      refine SXL.load1o 7 sh_23 rfl rfl rfl ?_
      refine SXL.len is_23 rfl ?_
      refine SXL.move rfl ?_
      refine SXL.nil ?_
      refine thenQ.normal ?_
      refine SX.block ?_
      refine SX.loopW (α := Nat × Sl × Nat × List Value × List (Int × Nat) × Nat) [0, 1, 3, 4, 5, 16, 17, 23, 24] rfl (fun ⟨i, q, n, c, ks, cl⟩ => [(25, .int .i64 ((i : Int)))]) (fun ⟨i, q, n, c, ks, cl⟩ => [(b0, .cells ⟨[.slice fo u.founts.length fc, .slice so u.streets.length sc]⟩ 25 (0, 0)), (b1, .cells ⟨[.int .i64 id]⟩ 3 (0, 0)), (b2, .cells ⟨[.int .i64 0]⟩ 3 (0, 0)), (b3, .cells ⟨[.int .i64 0]⟩ 28 (0, 0)), rn.ent 3 (ints (needs u false)), (b5, .cells ⟨suW u fo so fc sc (pad4 (waterL u week false)) (rn.val (needs u false).length)⟩ 78 (0, 0)), (b6, .cells ⟨[.int .i64 m]⟩ 3 (0, 0)), (bi, .cells ⟨suW u fo so fc sc (pad4 (waterL u week false)) (rn.val (needs u false).length)⟩ 78 (0, 0)), (r, .deferred (some [])), (l, ob .ready), (b10, .cells ⟨[q.val n, .int .i64 (0)]⟩ 109 (0, 0)), (b11, .map ⟨mkMap ks⟩ cl), q.ent 3 c]) (fun ⟨i, q, n, c, ks, cl⟩ => []) (fun ⟨i, q, n, c, ks, cl⟩ => i ≤ u.streets.length ∧ q.Ok n 1 c ∧ c = ints (memb b i) ∧ ∀ id, id ∈ mkeys ks ↔ opnB u b id i) (fun ⟨i, q, n, c, ks, cl⟩ => u.streets.length - i) (0, Sl.nil, 0, [], [], 0) ⟨Nat.zero_le _, .none _, rfl, fun id => by simp [mkeys, opnB]⟩ ⟨rfl, trivial⟩ rfl ?_
      rintro ⟨i, q, n, c, ks, cl⟩ ⟨hi, ho, rfl, hks⟩
      have hn := Ok.n ho
      have hml := memb_len b i
      refine SX.seq ?_
      refine SX.region ?_
      refine SXL.lss rfl rfl ?_
      refine SXL.nil ?_
      refine thenQ.normal ?_
      refine SX.seq ?_
      refine SX.condP rfl (fun c26 => ?_) (fun c26 => ?_)
      · refine SX.skip ?_
        refine thenQ.normal ?_
        refine SX.seq ?_
        refine SX.block ?_
        refine SX.seq ?_
        obtain ⟨bs, os, ha, hm⟩ := hs.street (i := i) (by omega)
        have hLk := hL2 i (by omega)
        have hbi : b / 2 ^ i ≤ b := Nat.div_le_self _ _
        refine SX.region ?_
        refine SXL.move rfl ?_
        refine SXL.indexR el_23 rfl rfl ha (by omega) ?_
        refine SXL.loadN sh_73 rfl (hm _) rfl ?_
        refine SXL.alloc zp_73 ?_; intro b13
        refine SXL.assign rfl ?_
        refine SXL.store 13 sz_73 rfl rfl rfl rfl rfl rfl ?_
        refine SXL.nil ?_
        refine thenQ.normal ?_
        refine SX.seq ?_
        refine SX.seq ?_
        refine SX.region ?_
        refine SXL.move rfl ?_
        refine SXL.move rfl ?_
        refine SXL.shrN rfl rfl (by omega) ?_
        refine SXL.and1 rfl rfl (by omega) ?_
        refine SXL.eqlI rfl rfl ?_
        refine SXL.nil ?_
        refine thenQ.normal ?_
        refine SX.condP rfl (fun c34 => ?_) (fun c34 => ?_)
        · refine SX.exit ?_
          refine thenQ.exit ?_
          refine blockQ.exit ?_
          refine thenQ.normal ?_
          refine SX.region ?_
          refine SXL.add rfl rfl (by omega) ?_
          refine SXL.move rfl ?_
          refine SXL.nil ?_
          refine thenQ.normal ?_
          refine ⟨(i + 1, _, _, _, _, _), MeetsW.mkP _ ⟨rfl, trivial⟩ ⟨rfl, rfl, rfl, rfl, rfl, rfl, rfl, rfl, rfl, trivial⟩ rfl, ?_, (show u.streets.length - (i + 1) < u.streets.length - i by omega)⟩
          refine ⟨by omega, ?_⟩
          first
            | exact ⟨o_39, by rw [memb, if_pos (show hasI b i by unfold hasI; omega), ints_snoc], opens_add hks (show hasI b i by unfold hasI; omega) (fun id => by rw [hks2 id, List.take_of_length_le (by omega)])⟩
            | exact ⟨ho, by rw [memb, if_neg (show ¬hasI b i by unfold hasI; omega)], opens_same hks (show ¬hasI b i by unfold hasI; omega)⟩
        · refine SX.skip ?_
          refine thenQ.normal ?_
          refine SX.seq ?_
          refine SX.region ?_
          refine SXL.fieldAddr fp_109_0 rfl ?_
          refine SXL.load1o 10 sh_33 rfl rfl rfl ?_
          refine SXL.move rfl ?_
          refine SXL.buildSlice et_33 zp_3 rfl rfl rfl rfl ?_; intro b14
          refine SXL.append 12 ap_33 rfl rfl ho rfl (.inr ⟨_, _, rfl, Mem.own (i := 14) rfl (takeAt_all _)⟩) rfl rfl ⟨by simp only [maxLen]; omega, by omega⟩ ?_; intro r_39 o_39
          refine SXL.fieldAddr fp_109_0 rfl ?_
          refine SXL.store 10 sz_33 rfl rfl rfl rfl rfl rfl ?_
          refine SXL.nil ?_
          refine thenQ.normal ?_
          refine SX.seq ?_
          refine SX.region ?_
          refine SXL.fieldAddr fp_73_3 rfl ?_
          refine SXL.load1o 13 sh_33 rfl rfl rfl ?_
          refine SXL.len is_33 rfl ?_
          refine SXL.move rfl ?_
          refine SXL.nil ?_
          refine thenQ.normal ?_
          refine SX.block ?_
          refine SX.loopW (α := Nat × List (Int × Nat) × Nat) [0, 1, 3, 4, 5, 6, 7, 16, 17, 23, 24, 25, 42, 43] rfl (fun ⟨j, ks2, cl2⟩ => [(44, .int .i64 ((j : Int)))]) (fun ⟨j, ks2, cl2⟩ => [(b0, .cells ⟨[.slice fo u.founts.length fc, .slice so u.streets.length sc]⟩ 25 (0, 0)), (b1, .cells ⟨[.int .i64 id]⟩ 3 (0, 0)), (b2, .cells ⟨[.int .i64 0]⟩ 3 (0, 0)), (b3, .cells ⟨[.int .i64 0]⟩ 28 (0, 0)), rn.ent 3 (ints (needs u false)), (b5, .cells ⟨suW u fo so fc sc (pad4 (waterL u week false)) (rn.val (needs u false).length)⟩ 78 (0, 0)), (b6, .cells ⟨[.int .i64 m]⟩ 3 (0, 0)), (bi, .cells ⟨suW u fo so fc sc (pad4 (waterL u week false)) (rn.val (needs u false).length)⟩ 78 (0, 0)), (r, .deferred (some [])), (l, ob .ready), (b10, .cells ⟨[r_39.val (n + 1), .int .i64 (0)]⟩ 109 (0, 0)), (b11, .map ⟨mkMap ks2⟩ cl2), r_39.ent 3 (ints (memb b i) ++ [.int .i64 (i : Int)]), (b13, .cells ⟨srC (u.streets.getD i default) (sa i)⟩ 73 (0, 0)), (b14, .cells ⟨[.int .i64 (i : Int)]⟩ 3 (0, 0))]) (fun ⟨j, ks2, cl2⟩ => []) (fun ⟨j, ks2, cl2⟩ => j ≤ (u.streets.getD i default).draws.length ∧ ∀ id, id ∈ mkeys ks2 ↔ (id ∈ mkeys ks ∨ id ∈ (u.streets.getD i default).draws.take j)) (fun ⟨j, ks2, cl2⟩ => (u.streets.getD i default).draws.length - j) (0, ks, cl) ⟨Nat.zero_le _, fun id => by simp⟩ ⟨rfl, trivial⟩ rfl ?_
          rintro ⟨j, ks2, cl2⟩ ⟨hj, hks2⟩
          refine SX.seq ?_
          refine SX.region ?_
          refine SXL.lss rfl rfl ?_
          refine SXL.nil ?_
          refine thenQ.normal ?_
          refine SX.seq ?_
          refine SX.condP rfl (fun c45 => ?_) (fun c45 => ?_)
          · refine SX.skip ?_
            refine thenQ.normal ?_
            refine SX.seq ?_
            refine SX.block ?_
            refine SX.seq ?_
            obtain ⟨bd, od, had, hmd⟩ := oneI (hs.draws i (by omega)) (i := j) (by omega)
            refine SX.region ?_
            refine SXL.indexR el_33 rfl rfl had (by omega) ?_
            refine SXL.load1 sh_3 rfl (hmd _) ?_
            refine SXL.assign rfl ?_
            refine SXL.nil ?_
            refine thenQ.normal ?_
            refine SX.region ?_
            refine SXL.move rfl ?_
            refine SXL.move rfl ?_
            refine SXL.mapPut 11 mk_94 rfl rfl rfl rfl ?_
            refine SXL.nil ?_
            refine blockQ.normal ?_
            refine thenQ.normal ?_
            refine SX.region ?_
            refine SXL.add rfl rfl (by omega) ?_
            refine SXL.move rfl ?_
            refine SXL.nil ?_
            refine thenQ.normal ?_
            refine ⟨(j + 1, _, _), MeetsW.mkP _ ⟨rfl, trivial⟩ ⟨rfl, rfl, rfl, rfl, rfl, rfl, rfl, rfl, rfl, rfl, rfl, rfl, rfl, rfl, trivial⟩ rfl, ⟨by omega, fun id => by rw [mput_keys, hks2 id, mem_take_snoc (show j < (u.streets.getD i default).draws.length by omega)]; exact ⟨fun h => h.elim (fun h => .inr (.inr h)) (fun h => h.elim .inl (fun h => .inr (.inl h))), fun h => h.elim (fun h => .inr (.inl h)) (fun h => h.elim (fun h => .inr (.inr h)) .inl)⟩⟩, (show (u.streets.getD i default).draws.length - (j + 1) < (u.streets.getD i default).draws.length - j by omega)⟩
          · refine SX.exit ?_
            refine thenQ.exit ?_
            refine thenQ.exit ?_
            refine blockQ.exit ?_
            refine blockQ.normal ?_
            refine thenQ.normal ?_
            refine SX.region ?_
            refine SXL.add rfl rfl (by omega) ?_
            refine SXL.move rfl ?_
            refine SXL.nil ?_
            refine thenQ.normal ?_
            refine ⟨(i + 1, _, _, _, _, _), MeetsW.mkP _ ⟨rfl, trivial⟩ ⟨rfl, rfl, rfl, rfl, rfl, rfl, rfl, rfl, rfl, trivial⟩ rfl, ?_, (show u.streets.length - (i + 1) < u.streets.length - i by omega)⟩
            refine ⟨by omega, ?_⟩
            first
              | exact ⟨o_39, by rw [memb, if_pos (show hasI b i by unfold hasI; omega), ints_snoc], opens_add hks (show hasI b i by unfold hasI; omega) (fun id => by rw [hks2 id, List.take_of_length_le (by omega)])⟩
              | exact ⟨ho, by rw [memb, if_neg (show ¬hasI b i by unfold hasI; omega)], opens_same hks (show ¬hasI b i by unfold hasI; omega)⟩
      · refine SX.exit ?_
        refine thenQ.exit ?_
        refine thenQ.exit ?_
        refine blockQ.exit ?_
        refine thenQ.normal ?_
        refine SX.seq ?_
        refine SX.seq ?_
        obtain rfl : i = u.streets.length := by omega
        refine SX.region ?_
        refine SXL.fieldAddr fp_78_0 rfl ?_
        refine SXL.fieldAddr fp_25_0 rfl ?_
        refine SXL.load1o 7 sh_22 rfl rfl rfl ?_
        refine SXL.len is_22 rfl ?_
        refine SXL.move rfl ?_
        refine SXL.nil ?_
        refine thenQ.normal ?_
        refine SX.block ?_
        refine SX.loopW (α := Nat × Int) [0, 1, 4, 5, 16, 17, 54, 55] rfl (fun ⟨k, th⟩ => [(56, .int .i64 ((k : Int)))]) (fun ⟨k, th⟩ => [(b0, .cells ⟨[.slice fo u.founts.length fc, .slice so u.streets.length sc]⟩ 25 (0, 0)), (b1, .cells ⟨[.int .i64 id]⟩ 3 (0, 0)), (b2, .cells ⟨[.int .i64 0]⟩ 3 (0, 0)), (b3, .cells ⟨[.int .i64 0]⟩ 28 (0, 0)), rn.ent 3 (ints (needs u false)), (b5, .cells ⟨suW u fo so fc sc (pad4 (waterL u week false)) (rn.val (needs u false).length)⟩ 78 (0, 0)), (b6, .cells ⟨[.int .i64 m]⟩ 3 (0, 0)), (bi, .cells ⟨suW u fo so fc sc (pad4 (waterL u week false)) (rn.val (needs u false).length)⟩ 78 (0, 0)), (r, .deferred (some [])), (l, ob .ready), (b10, .cells ⟨[q.val n, .int .i64 (th)]⟩ 109 (0, 0)), (b11, .map ⟨mkMap ks⟩ cl), q.ent 3 (ints (memb b u.streets.length))]) (fun ⟨k, th⟩ => []) (fun ⟨k, th⟩ => k ≤ u.founts.length ∧ th = thrTo u b (pad4 (waterL u week false)) k) (fun ⟨k, th⟩ => u.founts.length - k) (0, 0) ⟨Nat.zero_le _, rfl⟩ ⟨rfl, trivial⟩ rfl ?_
        rintro ⟨k, th⟩ ⟨hk, rfl⟩
        have hth := thrTo_in (u := u) (b := b) hWs k
        have hwk := hWs k
        refine SX.seq ?_
        refine SX.region ?_
        refine SXL.lss rfl rfl ?_
        refine SXL.nil ?_
        refine thenQ.normal ?_
        refine SX.seq ?_
        refine SX.condP rfl (fun c57 => ?_) (fun c57 => ?_)
        · refine SX.skip ?_
          refine thenQ.normal ?_
          refine SX.seq ?_
          refine SX.block ?_
          refine SX.seq ?_
          obtain ⟨bf, of, haf, hmf⟩ := hs.fount (i := k) (by omega)
          refine SX.region ?_
          refine SXL.move rfl ?_
          refine SXL.indexR el_22 rfl rfl haf (by omega) ?_
          refine SXL.loadN sh_70 rfl (hmf _) rfl ?_
          refine SXL.alloc zp_70 ?_; intro b13
          refine SXL.assign rfl ?_
          refine SXL.store 13 sz_70 rfl rfl rfl rfl rfl rfl ?_
          refine SXL.nil ?_
          refine thenQ.normal ?_
          refine SX.seq ?_
          refine SX.region ?_
          refine SXL.move rfl ?_
          refine SXL.fieldAddr fp_70_0 rfl ?_
          refine SXL.load1o 13 sh_3 rfl rfl rfl ?_
          refine SXL.mapGet 11 mk_94 rfl rfl rfl ?_
          refine SXL.nil ?_
          refine thenQ.normal ?_
          refine SX.condP rfl (fun c64 => ?_) (fun c64 => ?_)
          · refine SX.draw 8 (by kernel_rfl) (by kernel_rfl) {} ?_
            refine SXA.take 0 8 rfl (by kernel_rfl) rfl ?_
            refine SXL.fieldAddr fp_109_1 rfl ?_
            refine SXL.load1o 10 sh_3 rfl rfl rfl ?_
            refine SXL.move rfl ?_
            refine SXL.fieldAddr fp_78_1 rfl ?_
            refine SXL.indexA el_76 rfl rfl (by omega) ?_
            refine SXL.load1o 7 sh_3 rfl rfl (welC_at (i := k) (by simp) (by omega)) ?_
            refine SXL.add rfl rfl (by omega) ?_
            refine SXL.fieldAddr fp_109_1 rfl ?_
            refine SXL.nil ⟨rfl, rfl, rfl, ?_⟩
            refine SXA.done (by kernel_rfl) ?_
            refine SXL.store 10 sz_3 rfl rfl rfl rfl rfl rfl ?_
            refine SXL.nil ?_
            refine blockQ.normal ?_
            refine thenQ.normal ?_
            refine SX.region ?_
            refine SXL.add rfl rfl (by omega) ?_
            refine SXL.move rfl ?_
            refine SXL.nil ?_
            refine thenQ.normal ?_
            refine ⟨(k + 1, _), MeetsW.mkP _ ⟨rfl, trivial⟩ ⟨rfl, rfl, rfl, rfl, rfl, rfl, rfl, rfl, trivial⟩ rfl, ⟨by omega, ?_⟩, (show u.founts.length - (k + 1) < u.founts.length - k by omega)⟩
            first
              | (rw [thrTo, if_pos ((hks _).1 c64)])
              | (rw [thrTo, if_neg (fun h => c64 ((hks _).2 h))])
          · refine SX.skip ?_
            refine blockQ.normal ?_
            refine thenQ.normal ?_
            refine SX.region ?_
            refine SXL.add rfl rfl (by omega) ?_
            refine SXL.move rfl ?_
            refine SXL.nil ?_
            refine thenQ.normal ?_
            refine ⟨(k + 1, _), MeetsW.mkP _ ⟨rfl, trivial⟩ ⟨rfl, rfl, rfl, rfl, rfl, rfl, rfl, rfl, trivial⟩ rfl, ⟨by omega, ?_⟩, (show u.founts.length - (k + 1) < u.founts.length - k by omega)⟩
            first
              | (rw [thrTo, if_pos ((hks _).1 c64)])
              | (rw [thrTo, if_neg (fun h => c64 ((hks _).2 h))])
        · refine SX.exit ?_
          refine thenQ.exit ?_
          refine thenQ.exit ?_
          refine blockQ.exit ?_
          refine thenQ.normal ?_
          refine SX.seq ?_
          obtain rfl : k = u.founts.length := by omega
          refine SX.region ?_
          refine SXL.move rfl ?_
          refine SXL.loadNo 10 sh_109 rfl rfl rfl ?_
          refine SXL.yieldX hT hob hoj 9 rfl rfl rfl rfl rfl ?_
          have hn := Ok.n ho
          subst hn
          refine SX.region ?_
          refine SXL.alloc zp_109 ?_; intro b13
          refine SXL.store 13 sz_109 rfl rfl rfl rfl rfl rfl ?_
          refine SXL.nil ?_
          refine ⟨rfl, ?_⟩
          refine SX.block ?_
          refine SX.seq ?_
          refine SX.draw 8 (by kernel_rfl) (by kernel_rfl) {} ?_
          refine SXA.take 0 8 rfl (by kernel_rfl) rfl ?_
          refine SXL.loadNo 13 sh_109 rfl rfl rfl ?_
          refine SXL.fieldAddr fp_78_2 rfl ?_
          refine SXL.load1o 5 sh_33 rfl rfl (welC_need (hP _)) ?_
          refine SXL.call1 (.int .i64 (sumIx (memb b u.streets.length) (needs u false) (memb b u.streets.length).length)) fn_68 rfl (fun w hI => of_any (memb b u.streets.length) (needs u false) (thrTo u b (pad4 (waterL u week false)) u.founts.length) q.addr rn.addr q.cap rn.cap (by have := memb_len b u.streets.length; omega) (fun x hx => by have := memb_in b _ x hx; omega) (needs_sm hv _) w (slOnes hI ho (i := 12) rfl) (slOnes hI hrn (i := 4) rfl)) ?_
          refine SXL.fieldAddr fp_109_1 rfl ?_
          refine SXL.load1o 13 sh_3 rfl rfl rfl ?_
          refine SXL.sub rfl rfl (by rw [sumB_memb hNl]; have h1 := sumTo_in (b := b) (needs_sm hv false) (needs u false).length; have h2 := thrTo_in (u := u) (b := b) hWs u.founts.length; unfold sumB; omega) ?_
          refine SXL.assign rfl ?_
          refine SXL.nil ⟨rfl, rfl, rfl, ?_⟩
          refine SXA.done (by kernel_rfl) ?_
          refine SXL.nil ?_
          refine thenQ.normal ?_
          refine SX.seq ?_
          refine SX.seq ?_
          refine SX.region ?_
          refine SXL.move rfl ?_
          refine SXL.leq rfl rfl ?_
          refine SXL.nil ?_
          refine thenQ.normal ?_
          refine SX.condP rfl (fun c39 => ?_) (fun c39 => ?_)
          · refine SX.exit ?_
            refine thenQ.exit ?_
            refine blockQ.exit ?_
            refine ⟨rfl, ?_⟩
            refine SXL.not rfl ?_
            refine SXL.nil ?_
            refine thenQ.normal ?_
            refine SX.condP rfl (fun c77 => ?_) (fun c77 => ?_)
            · exfalso; exact c77 trivial
            refine SX.skip ?_
            refine blockQ.normal ?_
            refine thenQ.normal ?_
            refine SX.region ?_
            refine SXL.add rfl rfl (by omega) ?_
            refine SXL.move rfl ?_
            refine SXL.nil ?_
            refine thenQ.normal ?_
            refine ⟨(b + 1, _), MeetsW.mkP _ ⟨rfl, trivial⟩ ⟨rfl, rfl, rfl, trivial⟩ rfl, ?_, (show 2 ^ u.streets.length - (b + 1) < 2 ^ u.streets.length - b by omega)⟩
            obtain ⟨hC1, hC2⟩ := hC
            subst hC1
            have hmp := maxL_pos u (pad4 (waterL u week false)) (needs u false) b
            rw [sumB_memb hNl] at c39
            refine ⟨by omega, ?_, ?_⟩
            · simp only [maxL, lack, thr]
              first
                | (rw [sumB_memb hNl])
                | (omega)
            · intro d hd
              by_cases e : d = b
              · subst e
                first
                  | exact .inl (by simp only [lack, thr]; omega)
                  | exact .inr (opens_memb.1 (idxF_nonneg.1 (Classical.not_not.1 c44)))
              · exact hC2 d (by omega)
          · refine SX.skip ?_
            refine thenQ.normal ?_
            refine SX.seq ?_
            refine SX.seq ?_
            refine SX.region ?_
            refine SXL.fieldAddr fp_109_0 rfl ?_
            refine SXL.load1o 13 sh_33 rfl rfl rfl ?_
            refine SXL.makeFunc rfl rfl ?_
            refine SXL.call1 (.bool (decide (0 ≤ idxF (fun k => id ∈ (u.streets.getD ((memb b u.streets.length).getD k 0).toNat default).draws) (memb b u.streets.length).length))) fn_82 rfl (fun w hI => containsFuncInts (memb b u.streets.length) q.addr q.cap 83 [] [.pointer (some ⟨b0, 0, none⟩), .pointer (some ⟨b1, 0, none⟩)] (fun k => id ∈ (u.streets.getD ((memb b u.streets.length).getD k 0).toNat default).draws) fn_83 (by have := memb_len b u.streets.length; omega) w (slOnes hI ho (i := 12) rfl) (fun k hk w' hb => more1_any u fo so fc sc fa sa _ id b0 b1 (memb_in b _ _ (by rw [List.getD_eq_getElem?_getD, List.getElem?_eq_getElem hk]; exact List.getElem_mem hk)) hl w' ((hs.inv hI).below hb) (fun j v hj => by have := ownCell (hI.ext hb) (i := 0) rfl hj; simpa using this) (ownCell (hI.ext hb) (i := 1) rfl rfl))) ?_
            refine SXL.not rfl ?_
            refine SXL.nil ?_
            refine thenQ.normal ?_
            refine SX.condP rfl (fun c44 => ?_) (fun c44 => ?_)
            · refine SX.seq ?_
              refine SX.region ?_
              refine SXL.store 2 sz_3 rfl rfl rfl rfl rfl rfl ?_
              refine SXL.store 3 sz_28 rfl rfl rfl rfl rfl rfl ?_
              refine SXL.nil ?_
              refine thenQ.normal ?_
              refine SX.ret ?_
              refine thenQ.ret ?_
              refine blockQ.ret ?_
              refine ⟨rfl, ?_⟩
              refine SXL.not rfl ?_
              refine SXL.nil ?_
              refine thenQ.normal ?_
              refine SX.condP rfl (fun c77 => ?_) (fun c77 => ?_)
              rotate_left
              · exfalso; exact c77 (fun h => h)
              refine SX.ret ?_
              refine blockQ.ret ?_
              refine thenQ.ret ?_
              refine thenQ.ret ?_
              refine blockQ.ret ?_
              refine retQ.zero ?_
              refine Or.inr ⟨9, rfl, ?_⟩
              refine blockQ.ret ?_
              refine thenQ.ret ?_
              refine retQ.unmark 8 rfl ?_
              refine retQ.two (ResAt.cell1o 2 sh_3 rfl rfl rfl) (ResAt.cell1o 3 sh_28 rfl rfl rfl) ?_
              exact mo_none he hNl (b := b) (by omega) (by rw [sumB_memb hNl] at c39; simp only [lack, thr]; omega) (fun h => c44 (idxF_nonneg.2 (opens_memb.2 h)))
            · refine SX.skip ?_
              refine thenQ.normal ?_
              refine SX.region ?_
              refine SXL.load1o 6 sh_3 rfl rfl rfl ?_
              refine SXL.move rfl ?_
              refine SXL.max rfl rfl ?_
              refine SXL.store 6 sz_3 rfl rfl rfl rfl rfl rfl ?_
              refine SXL.nil ?_
              refine blockQ.normal ?_
              refine ⟨rfl, ?_⟩
              refine SXL.not rfl ?_
              refine SXL.nil ?_
              refine thenQ.normal ?_
              refine SX.condP rfl (fun c77 => ?_) (fun c77 => ?_)
              · exfalso; exact c77 trivial
              refine SX.skip ?_
              refine blockQ.normal ?_
              refine thenQ.normal ?_
              refine SX.region ?_
              refine SXL.add rfl rfl (by omega) ?_
              refine SXL.move rfl ?_
              refine SXL.nil ?_
              refine thenQ.normal ?_
              refine ⟨(b + 1, _), MeetsW.mkP _ ⟨rfl, trivial⟩ ⟨rfl, rfl, rfl, trivial⟩ rfl, ?_, (show 2 ^ u.streets.length - (b + 1) < 2 ^ u.streets.length - b by omega)⟩
              obtain ⟨hC1, hC2⟩ := hC
              subst hC1
              have hmp := maxL_pos u (pad4 (waterL u week false)) (needs u false) b
              rw [sumB_memb hNl] at c39
              refine ⟨by omega, ?_, ?_⟩
              · simp only [maxL, lack, thr]
                first
                  | (rw [sumB_memb hNl])
                  | (omega)
              · intro d hd
                by_cases e : d = b
                · subst e
                  first
                    | exact .inl (by simp only [lack, thr]; omega)
                    | exact .inr (opens_memb.1 (idxF_nonneg.1 (Classical.not_not.1 c44)))
                · exact hC2 d (by omega)
    · refine SX.exit ?_
      refine thenQ.exit ?_
      refine thenQ.exit ?_
      refine blockQ.exit ?_
      refine retQ.zeroN ?_
      refine Or.inl ⟨9, rfl, ?_⟩
      refine blockQ.normal ?_
      refine thenQ.normal ?_
      refine SX.seq ?_
      have hbe : b = 2 ^ u.streets.length := by omega
      refine SX.region ?_
      refine SXL.load1o 6 sh_3 rfl rfl rfl ?_
      refine SXL.store 2 sz_3 rfl rfl rfl rfl rfl rfl ?_
      refine SXL.store 3 sz_28 rfl rfl rfl rfl rfl rfl ?_
      refine SXL.nil ?_
      refine thenQ.normal ?_
      refine SX.ret ?_
      refine retQ.unmark 8 rfl ?_
      refine retQ.two (ResAt.cell1o 2 sh_3 rfl rfl rfl) (ResAt.cell1o 3 sh_28 rfl rfl rfl) ?_
      exact mo_some he hNl (by rw [hC.1, hbe]) (fun d hd => hC.2 d (by omega))
end Go.Proofs.YtolcicaclflagaaDoor

/- Supplies in new memory. -/
namespace Go.T
open Go Go.X Go.S Go.RowKit
theorem srcLast {w0 : World} {own : X.Own} {b m : Nat} {l : List Value} {E : TypeId} {fz : Nat × Nat} : Src w0 (own ++ [(b, .cells ⟨l⟩ E fz)]) (some ⟨b, 0, none⟩) m l :=
  .inr ⟨b, 0, rfl, Mem.own (i := own.length) (show (own ++ [(b, .cells ⟨l⟩ E fz)])[own.length]? = some (b, .cells ⟨l⟩ E fz) by simp) (takeAt_full rfl)⟩
def upd {α : Type} (f : Nat → α) (k : Nat) (a : α) : Nat → α := fun i => if i = k then a else f i
theorem upd_self {α : Type} (f : Nat → α) (k : Nat) (a : α) : upd f k a k = a := if_pos rfl
theorem upd_ne {α : Type} (f : Nat → α) {k i : Nat} (a : α) (h : i ≠ k) : upd f k a i = f i := if_neg h
def foRowsN (u : Su) (fa : Nat → FA) (n : Nat) : List (List Value) := (List.range n).map fun i => foC (u.founts.getD i default) (fa i)
def srRowsN (u : Su) (sa : Nat → DA) (n : Nat) : List (List Value) := (List.range n).map fun i => srC (u.streets.getD i default) (sa i)
theorem foRowsN_succ (u : Su) (fa : Nat → FA) (k : Nat) (a : FA) : (foRowsN u (upd fa k a) (k + 1)).flatten = (foRowsN u fa k).flatten ++ foC (u.founts.getD k default) a := by
  unfold foRowsN
  rw [List.range_succ, List.map_append, List.flatten_append]
  congr 1
  · congr 1
    refine List.map_congr_left fun i hi => ?_
    rw [upd_ne _ _ (by have := List.mem_range.1 hi; omega)]
  · simp [upd_self]
theorem srRowsN_succ (u : Su) (sa : Nat → DA) (k : Nat) (a : DA) : (srRowsN u (upd sa k a) (k + 1)).flatten = (srRowsN u sa k).flatten ++ srC (u.streets.getD k default) a := by
  unfold srRowsN
  rw [List.range_succ, List.map_append, List.flatten_append]
  congr 1
  · congr 1
    refine List.map_congr_left fun i hi => ?_
    rw [upd_ne _ _ (by have := List.mem_range.1 hi; omega)]
  · simp [upd_self]
theorem Sel.keepM {A M B N own : X.Own} (h : own = A ++ (M ++ (B ++ N))) : Sel (A ++ B) own := by
  subst h
  refine Sel.sub ((List.Sublist.refl A).append ?_)
  exact (List.sublist_append_left B N).trans (List.sublist_append_right M (B ++ N))
theorem Sel.keepM2 {A M B N T own : X.Own} (h : own = A ++ (M ++ (B ++ (N ++ T)))) : Sel (A ++ (B ++ T)) own := by
  subst h
  refine Sel.sub ((List.Sublist.refl A).append ?_)
  refine List.Sublist.trans ?_ (List.sublist_append_right M _)
  exact (List.Sublist.refl B).append (List.sublist_append_right N T)
/-- What the blocks B hold of springs, of what streets draw from. -/
def SpHas (B : X.Own) (u : Su) (fa : Nat → FA) (n : Nat) : Prop := ∀ i, i < n → Own.Has B fun w => SpAt w (u.founts.getD i default).sp (fa i).bo (fa i).ro
def DrHas (B : X.Own) (u : Su) (sa : Nat → DA) (n : Nat) : Prop := ∀ i, i < n → Own.Has B fun w => RowsAt w (sa i).1 1 (ones (u.streets.getD i default).draws)
theorem SpHas.of {B B' : X.Own} {u : Su} {fa : Nat → FA} {n : Nat} (h : SpHas B u fa n) (hs : Sel B B') : SpHas B' u fa n := fun i hi => (h i hi).of hs
theorem DrHas.of {B B' : X.Own} {u : Su} {sa : Nat → DA} {n : Nat} (h : DrHas B u sa n) (hs : Sel B B') : DrHas B' u sa n := fun i hi => (h i hi).of hs
theorem SpHas.add {B : X.Own} {u : Su} {fa : Nat → FA} {k : Nat} (h : SpHas B u fa k) {r1 r2 : Sl} (o1 : r1.Ok (u.founts.getD k default).sp.book.length 5 (bookC (u.founts.getD k default).sp)) (o2 : r2.Ok (u.founts.getD k default).sp.reads.length 5 (readsC (u.founts.getD k default).sp)) :
    SpHas (B ++ [r1.ent 129 (bookC (u.founts.getD k default).sp), r2.ent 131 (readsC (u.founts.getD k default).sp)]) u (upd fa k ⟨r1.addr, r2.addr, r1.cap, r2.cap⟩) (k + 1) := by
  intro i hi
  by_cases e : i = k
  · subst e; rw [upd_self]
    intro w0 w hI
    exact spAtOwn (hI.weaken (List.sublist_append_right B _)) o1 o2 (i := 0) (j := 1) rfl rfl
  · rw [upd_ne _ _ e]
    exact (h i (by omega)).of (Sel.pre B _)
theorem DrHas.add {B : X.Own} {u : Su} {sa : Nat → DA} {k : Nat} (h : DrHas B u sa k) {r : Sl} (o : r.Ok (u.streets.getD k default).draws.length 1 (ints (u.streets.getD k default).draws)) :
    DrHas ([r.ent 3 (ints (u.streets.getD k default).draws)] ++ B) u (upd sa k (r.addr, r.cap)) (k + 1) := by
  intro i hi
  by_cases e : i = k
  · subst e; rw [upd_self]
    intro w0 w hI
    exact slOnes (hI.weaken (List.sublist_append_left _ B)) o (i := 0) rfl
  · rw [upd_ne _ _ e]
    exact (h i (by omega)).of (Sel.sub (List.sublist_append_right _ B))
/-- A supply in new memory. -/
structure TwR (u : Su) (v : Value) (own : X.Own) : Prop where
  ex : ∃ (q1 q2 : Sl) (fa : Nat → FA) (sa : Nat → DA), v = .agg ⟨[q1.val u.founts.length, q2.val u.streets.length]⟩ ∧ Own.Has own fun w => SuAt w u q1.addr q2.addr fa sa
theorem TwR.mk' {u : Su} {q1 q2 : Sl} {fa : Nat → FA} {sa : Nat → DA} {B : X.Own} (o1 : q1.Ok u.founts.length 10 (foRowsN u fa u.founts.length).flatten) (o2 : q2.Ok u.streets.length 5 (srRowsN u sa u.streets.length).flatten) (h1 : SpHas B u fa u.founts.length) (h2 : DrHas B u sa u.streets.length) :
    TwR u (.agg ⟨[q1.val u.founts.length, q2.val u.streets.length]⟩) ([q1.ent 70 (foRowsN u fa u.founts.length).flatten, q2.ent 73 (srRowsN u sa u.streets.length).flatten] ++ B) := by
  refine ⟨q1, q2, fa, sa, rfl, fun w0 w hI => ?_⟩
  have hB := hI.weaken (List.sublist_append_right _ B)
  refine ⟨Sl.rows hI (by omega) o1 (i := 0) rfl (by intro r hr; obtain ⟨i, _, rfl⟩ := List.mem_map.1 hr; rfl), fun i hi => h1 i hi w0 w hB, Sl.rows hI (by omega) o2 (i := 1) rfl (by intro r hr; obtain ⟨i, _, rfl⟩ := List.mem_map.1 hr; rfl), fun i hi => h2 i hi w0 w hB⟩
/-! ### supplies that are the same -/
def Fo.key (x : Fo) : Int × Sp := (x.id, x.sp)
theorem su_ext {u v : Su} (h1 : u.founts.length = v.founts.length) (h2 : u.streets.length = v.streets.length) (h3 : ∀ i, i < u.founts.length → (u.founts.getD i default).id = (v.founts.getD i default).id ∧ (u.founts.getD i default).sp = (v.founts.getD i default).sp)
    (h4 : ∀ i, i < u.streets.length → u.streets.getD i default = v.streets.getD i default) : u = v := by
  obtain ⟨uf, us⟩ := u
  obtain ⟨vf, vs⟩ := v
  simp only at *
  congr 1
  · refine list_extD h1 fun i hi => ?_
    have := h3 i hi
    cases hx : uf.getD i default; cases hy : vf.getD i default
    rw [hx, hy] at this
    simp only at this
    rw [this.1, this.2]
  · exact list_extD h2 h4
theorem sr_ext {x y : Sr} (h1 : x.id = y.id) (h2 : [x.n0, x.n1] = [y.n0, y.n1]) (h3 : x.least = y.least) (h4 : x.draws = y.draws) : x = y := by
  cases x; cases y
  simp at *
  exact ⟨h1, h2.1, h2.2, h3, h4⟩
end Go.T

/- The streets that prove that there is not enough: lists of ids, the first of them. Nothing of Go stands here. -/
namespace Go.T
open Go.S Go.X
/-- What slices.Compare tells. -/
def scV : List Int → List Int → Int
  | [], [] => 0
  | [], _ :: _ => -1
  | _ :: _, [] => 1
  | a :: l, b :: m => if cmpV a b ≠ 0 then cmpV a b else scV l m
/-- The first of several numbers that is not 0. -/
def orL : List Int → Int
  | [] => 0
  | a :: r => if a ≠ 0 then a else orL r
/-- The first number that differs is less. -/
def lexL : List Int → List Int → Bool
  | a :: l, b :: m => if a = b then lexL l m else decide (a < b)
  | _, _ => false
def BefP (a b : List Int) : Prop := if a.length ≠ b.length then a.length < b.length else lexL a b = true
instance (a b : List Int) : Decidable (BefP a b) := by unfold BefP; infer_instance
def pcV (a b : List Int) : Int := orL [cmpV a.length b.length, scV a b]
theorem cmpV_zero {a b : Int} : cmpV a b = 0 ↔ a = b := by unfold cmpV; split <;> (try split) <;> omega
theorem scV_neg : ∀ {a b : List Int}, a.length = b.length → (scV a b < 0 ↔ lexL a b = true)
  | [], [], _ => by simp [scV, lexL]
  | [], _ :: _, h => by simp at h
  | _ :: _, [], h => by simp at h
  | x :: l, y :: m, h => by
    have ih := scV_neg (a := l) (b := m) (by simpa using h)
    simp only [scV, lexL]
    by_cases e : x = y
    · rw [if_neg (by rw [cmpV_zero.2 e]; decide), if_pos e]; exact ih
    · rw [if_pos (fun h => e (cmpV_zero.1 h)), if_neg e, cmpV_neg, decide_eq_true_iff]
theorem pcV_neg {a b : List Int} : pcV a b < 0 ↔ BefP a b := by
  unfold pcV BefP orL
  by_cases e : a.length = b.length
  · rw [if_neg (by rw [cmpV_zero.2 (by omega)]; decide), if_neg (fun h => h e)]
    simp only [orL]
    rw [← scV_neg e]
    split <;> omega
  · rw [if_pos (fun h => e (by have := cmpV_zero.1 h; omega)), if_pos e, cmpV_neg]; omega
theorem drop_getD {l : List Int} {k : Nat} (h : k < l.length) : l.drop k = l.getD k 0 :: l.drop (k + 1) := by
  rw [List.drop_eq_getElem_cons h, List.getD_eq_getElem?_getD, List.getElem?_eq_getElem h]; rfl
theorem dropN (l : List Int) {k : Nat} (h : l.length ≤ k) : l.drop k = [] := List.drop_eq_nil_of_le h
/-! ### the ids of a set -/
def idsB (u : Su) (b : Nat) : Nat → List Int
  | 0 => []
  | k + 1 => if hasI b k then idsB u b k ++ [(u.streets.getD k default).id] else idsB u b k
theorem idsB_map (u : Su) (b : Nat) : ∀ n, idsB u b n = (memb b n).map fun i => (u.streets.getD i.toNat default).id
  | 0 => rfl
  | n + 1 => by
    simp only [idsB, memb]
    rw [idsB_map u b n]
    split
    · simp
    · rfl
theorem idsB_len (u : Su) (b : Nat) (n : Nat) : (idsB u b n).length ≤ n := by rw [idsB_map, List.length_map]; exact memb_len b n
/-- A set that lacks water. -/
def LackP (u : Su) (W L : List Int) (b : Nat) : Prop := thr u b W < sumB b L
instance (u : Su) (W L : List Int) (b : Nat) : Decidable (LackP u W L b) := by unfold LackP; infer_instance
/-- The lists of all of the first k sets that lack water. -/
def lkL (u : Su) (W L : List Int) : Nat → List (List Int)
  | 0 => []
  | k + 1 => if LackP u W L k then lkL u W L k ++ [idsB u k u.streets.length] else lkL u W L k
theorem lkL_len (u : Su) (W L : List Int) : ∀ k, (lkL u W L k).length ≤ k
  | 0 => Nat.le_refl _
  | k + 1 => by have := lkL_len u W L k; simp only [lkL]; split <;> (try simp) <;> omega
theorem lkL_mem (u : Su) (W L : List Int) : ∀ k, ∀ x ∈ lkL u W L k, x.length ≤ u.streets.length
  | 0, x, h => by simp [lkL] at h
  | k + 1, x, h => by
    simp only [lkL] at h
    split at h
    · rcases List.mem_append.1 h with h | h
      · exact lkL_mem u W L k x h
      · simp at h; subst h; exact idsB_len u k _
    · exact lkL_mem u W L k x h
/-- The first of the first k + 1 lists. -/
def minL (l : List (List Int)) : Nat → List Int
  | 0 => l.getD 0 []
  | k + 1 => if BefP (l.getD (k + 1) []) (minL l k) then l.getD (k + 1) [] else minL l k
theorem minL_app (l : List (List Int)) (x : List Int) : ∀ k, k < l.length → minL (l ++ [x]) k = minL l k
  | 0, h => by simp only [minL, List.getD_eq_getElem?_getD]; rw [List.getElem?_append_left h]
  | k + 1, h => by
    have ih := minL_app l x k (by omega)
    simp only [minL]; rw [ih]
    have e : (l ++ [x]).getD (k + 1) [] = l.getD (k + 1) [] := by simp only [List.getD_eq_getElem?_getD]; rw [List.getElem?_append_left h]
    rw [e]
/-- The first list of all sets below k, as the reference finds it. -/
def rfO (u : Su) (W L : List Int) : Nat → List Int
  | 0 => []
  | k + 1 => if LackP u W L k ∧ (rfO u W L k = [] ∨ BefP (idsB u k u.streets.length) (rfO u W L k)) then idsB u k u.streets.length else rfO u W L k
theorem lack_ids {u : Su} {W L : List Int} {b : Nat} (hL : L.length = u.streets.length) (hW : ∀ k : Nat, 0 ≤ W.getD k 0) (h : LackP u W L b) : idsB u b u.streets.length ≠ [] := by
  intro e
  have key : ∀ n, idsB u b n = [] → sumTo b L n = 0 := by
    intro n
    induction n with
    | zero => intro _; rfl
    | succ n ih =>
      simp only [idsB, sumTo]
      by_cases hb : hasI b n
      · rw [if_pos hb]; intro h; simp at h
      · rw [if_neg hb, if_neg hb]; exact ih
  have h1 := key _ e
  have h2 := thrTo_pos (u := u) (b := b) hW u.founts.length
  unfold LackP sumB thr at h
  rw [hL] at h; omega
theorem rfO_min {u : Su} {W L : List Int} (hL : L.length = u.streets.length) (hW : ∀ k : Nat, 0 ≤ W.getD k 0) : ∀ k, (lkL u W L k = [] → rfO u W L k = []) ∧ (lkL u W L k ≠ [] → rfO u W L k = minL (lkL u W L k) ((lkL u W L k).length - 1) ∧ rfO u W L k ≠ [])
  | 0 => ⟨fun _ => rfl, fun h => absurd rfl h⟩
  | k + 1 => by
    obtain ⟨h1, h2⟩ := rfO_min hL hW k
    simp only [lkL, rfO]
    by_cases hk : LackP u W L k
    · have hid := lack_ids hL hW hk
      rw [if_pos hk]
      refine ⟨fun h => by simp at h, fun _ => ?_⟩
      by_cases e : lkL u W L k = []
      · rw [if_pos ⟨hk, .inl (h1 e)⟩, e]
        exact ⟨rfl, hid⟩
      · obtain ⟨h3, h4⟩ := h2 e
        have hlen : 0 < (lkL u W L k).length := List.length_pos_iff.2 e
        obtain ⟨m, hm⟩ : ∃ m, (lkL u W L k).length = m + 1 := ⟨(lkL u W L k).length - 1, by omega⟩
        have e1 : (lkL u W L k ++ [idsB u k u.streets.length]).length - 1 = m + 1 := by simp; omega
        have e2 : (lkL u W L k ++ [idsB u k u.streets.length]).getD (m + 1) [] = idsB u k u.streets.length := by
          rw [List.getD_eq_getElem?_getD, List.getElem?_append_right (by omega), hm]; simp
        rw [e1]
        simp only [minL]
        rw [e2, minL_app _ _ _ (by omega)]
        rw [hm] at h3
        simp only [Nat.add_sub_cancel] at h3
        rw [← h3]
        by_cases hb : BefP (idsB u k u.streets.length) (rfO u W L k)
        · rw [if_pos ⟨hk, .inr hb⟩, if_pos hb]; exact ⟨rfl, hid⟩
        · rw [if_neg (fun h => h.2.elim h4 hb), if_neg hb]; exact ⟨rfl, h4⟩
    · rw [if_neg hk, if_neg (fun h => hk h.1)]; exact ⟨h1, h2⟩
/-- What Proof tells. -/
def prO (u : Su) (week : Int) (best : Bool) : List Int := rfO u (waterL u week best) (needs u best) (2 ^ u.streets.length)
def prE (u : Su) (week : Int) (best : Bool) : Int := if askT u week True 0 ≠ 0 then askT u week True 0 else if prO u week best = [] then 6 else 0
def prL (u : Su) (week : Int) (best : Bool) : List Int := if prE u week best = 0 then prO u week best else []
theorem lackP_congr {u : Su} {W W' L : List Int} (h : ∀ k, W.getD k 0 = W'.getD k 0) (b : Nat) : LackP u W L b ↔ LackP u W' L b := by unfold LackP; rw [thr_congr h]
theorem rfO_congr {u : Su} {W W' L : List Int} (h : ∀ k, W.getD k 0 = W'.getD k 0) : ∀ k, rfO u W L k = rfO u W' L k
  | 0 => rfl
  | k + 1 => by
    simp only [rfO]; rw [rfO_congr h k]
    by_cases hc : LackP u W' L k ∧ (rfO u W' L k = [] ∨ BefP (idsB u k u.streets.length) (rfO u W' L k))
    · rw [if_pos hc, if_pos ⟨(lackP_congr h k).2 hc.1, hc.2⟩]
    · rw [if_neg hc, if_neg (fun x => hc ⟨(lackP_congr h k).1 x.1, x.2⟩)]
theorem rfO_len (u : Su) (W L : List Int) : ∀ k, (rfO u W L k).length ≤ u.streets.length
  | 0 => Nat.zero_le _
  | k + 1 => by
    have ih := rfO_len u W L k
    have h1 := idsB_len u k u.streets.length
    simp only [rfO]; split <;> omega
theorem prL_len (u : Su) (week : Int) (best : Bool) : (prL u week best).length ≤ u.streets.length := by
  unfold prL; split
  · exact rfO_len _ _ _ _
  · exact Nat.zero_le _
end Go.T

/- Lists of lists of numbers in memory. -/
namespace Go.T
open Go Go.X Go.S Go.RowKit
instance : Inhabited Sl := ⟨Sl.nil⟩
/-- A list of numbers in memory of its own: its slice, its length, its numbers. -/
abbrev Trp := Sl × Nat × List Int
def rowP (x : Trp) : List Value := [x.1.val x.2.1]
def OkTr (tr : List Trp) : Prop := ∀ x ∈ tr, x.1.Ok x.2.1 1 (ints x.2.2)
def TrHas (P : X.Own) (tr : List Trp) : Prop := ∀ x ∈ tr, Own.Has P fun w => RowsAt w x.1.addr 1 (ones x.2.2)
theorem OkTr.nil : OkTr [] := fun _ h => (by cases h)
theorem TrHas.nil (P : X.Own) : TrHas P [] := fun _ h => (by cases h)
structure TrAt (w : World) (ao : Option Addr) (tr : List Trp) : Prop where
  rows : RowsAt w ao 1 (tr.map rowP)
  each : ∀ x ∈ tr, RowsAt w x.1.addr 1 (ones x.2.2)
theorem TrAt.inv {w0 w : World} {own : X.Own} {ao : Option Addr} {tr : List Trp} (h : TrAt w0 ao tr) (hI : Inv w0 own w) : TrAt w ao tr := ⟨h.rows.inv hI, fun x hx => (h.each x hx).inv hI⟩
theorem tr_get {tr : List Trp} {k : Nat} (hk : k < tr.length) : tr.getD k default ∈ tr := by
  rw [List.getD_eq_getElem?_getD, List.getElem?_eq_getElem hk]; exact List.getElem_mem hk
theorem TrAt.row {w : World} {ao : Option Addr} {tr : List Trp} (h : TrAt w ao tr) {k : Nat} (hk : k < tr.length) : ∃ b o, ao = some ⟨b, o, none⟩ ∧ ∀ own, Mem w own b (o + k * 1) (rowP (tr.getD k default)) :=
  h.rows.get (by simp [List.getD_eq_getElem?_getD, hk])
theorem tr_map_get {tr : List Trp} {k : Nat} (hk : k < tr.length) : (tr.map (·.2.2)).getD k [] = (tr.getD k default).2.2 := by
  simp [List.getD_eq_getElem?_getD, hk]
theorem TrHas.of {P P' : X.Own} {tr : List Trp} (h : TrHas P tr) (hs : Sel P P') : TrHas P' tr := fun x hx => (h x hx).of hs
theorem TrHas.add {P : X.Own} {tr : List Trp} (h : TrHas P tr) {q : Sl} {n : Nat} {l : List Int} (o : q.Ok n 1 (ints l)) : TrHas (P ++ [q.ent 3 (ints l)]) (tr ++ [(q, n, l)]) := by
  intro x hx
  rcases List.mem_append.1 hx with hx | hx
  · exact (h x hx).of (Sel.pre P _)
  · simp at hx; subst hx
    intro w0 w hI
    exact slOnes (hI.weaken (List.sublist_append_right P _)) o (i := 0) rfl
theorem OkTr.add {tr : List Trp} (h : OkTr tr) {q : Sl} {n : Nat} {l : List Int} (o : q.Ok n 1 (ints l)) : OkTr (tr ++ [(q, n, l)]) := by
  intro x hx
  rcases List.mem_append.1 hx with hx | hx
  · exact h x hx
  · simp at hx; subst hx; exact o
theorem trAtOwn {w0 w : World} {own P : X.Own} (hI : Inv w0 own w) (hP : Inv w0 P w) {q : Sl} {n i : Nat} {tr : List Trp} (ho : q.Ok n 1 (tr.map rowP).flatten) (hi : own[i]? = some (q.ent 33 (tr.map rowP).flatten)) (h : TrHas P tr) : TrAt w q.addr tr :=
  ⟨Sl.rows hI (by omega) ho hi (by intro r hr; obtain ⟨x, _, rfl⟩ := List.mem_map.1 hr; rfl), fun x hx => h x hx w0 w hP⟩
theorem Ok.rows1 {q : Sl} {n : Nat} {tr : List Trp} (h : q.Ok n 1 (tr.map rowP).flatten) : n = tr.length := by
  have h1 := h.len
  rw [length_flatten (k := 1) (by intro r hr; obtain ⟨x, _, rfl⟩ := List.mem_map.1 hr; rfl), List.length_map] at h1
  omega
theorem ints_app (a b : List Int) : ints (a ++ b) = ints a ++ ints b := by simp [ints]
/-- A list of numbers somewhere in new memory, and an error. -/
structure PrR (l : List Int) (e : Int) (v : Value) (own : X.Own) : Prop where
  ex : ∃ ao c, v = .tuple ⟨[.slice ao l.length c, .int .i64 e]⟩ ∧ Own.Has own fun w => RowsAt w ao 1 (ones l)
theorem PrR.errs {l : List Int} {e e' : Int} {own : X.Own} (h : l = []) (he : e' = e) : PrR l e (.tuple ⟨[.slice none 0 0, .int .i64 e']⟩) own := by
  subst h he; exact ⟨none, 0, rfl, fun _ w _ => RowsAt.nil w _ _⟩
end Go.T

/- The calculus' rules: elements of slices of the call's own. Nothing of the program stands here. -/
namespace Go.X
open Go Go.RowKit
section
variable {C : Cx} {Q : Post} {env : Env} {own : Own} {D : List Deferred} {ops : Array Oper} {rest : List Oper}
variable {d : Nat} {ty : TypeId} {pos : String} {aft : Array Edge} {g : Option (Nat × Bool)} {x y : Operand} {T T' : TypeId}
theorem SXL.indexSl (j : Nat) {r : Sl} {n s : Nat} {k : IntKind} {i : Int} {E : TypeId} {cells : List Value} (he : elemP C.P T = some (none, s)) (hx : ev env x = some (r.val n)) (hy : ev env y = some (.int k i)) (hb : 0 ≤ i ∧ i < n)
    (_hi : own[j]? = some (r.ent E cells)) (hok : r.Ok n s cells)
    (h : ∀ b, r.blk = some b → SXL C ops rest Q ⟨(d, .pointer (some ⟨b, 0 + i.toNat * s, none⟩)) :: env, own, D⟩) (hd : Nat.blt d C.n = true := by rfl) (hw : Wanted ops g env = some true := by rfl) :
    SXL C ops ({ dst := some d, op := .indexAddr T x y, type := ty, pos, after := aft, guard := g } :: rest) Q ⟨env, own, D⟩ := by
  obtain ⟨b, hbl⟩ := hok.some (show 0 < n by omega)
  refine SXL.indexR he hx hy (ao := r.addr) (b := b) (off := 0) (by simp [Sl.addr, hbl]) hb (h b hbl) hd hw
theorem SXL.loadSl1 (j : Nat) {r : Sl} {n s off b : Nat} {E : TypeId} {cells : List Value} {v : Value} (hT : shapeT C.P T = some none) (hx : ev env x = some (.pointer (some ⟨b, off, none⟩))) (hbl : r.blk = some b)
    (hi : own[j]? = some (r.ent E cells)) (_hok : r.Ok n s cells) (hv : cells[off]? = some v)
    (h : SXL C ops rest Q ⟨(d, v) :: env, own, D⟩) (hd : Nat.blt d C.n = true := by rfl) (hw : Wanted ops g env = some true := by rfl) :
    SXL C ops ({ dst := some d, op := .load T x, type := ty, pos, after := aft, guard := g } :: rest) Q ⟨env, own, D⟩ := by
  have hm : Mem C.w0 own b off [v] := by
    have hent : r.ent E cells = (b, .cells ⟨cells ++ r.sp⟩ E (0, 0)) := by simp [Sl.ent, hbl]
    rw [hent] at hi
    exact Mem.own (k := 1) hi (takeAt_append (takeAt_one hv))
  exact SXL.load1 hT hx hm h hd hw
end
end Go.X

/- The calculus' rules: a store into a slice of the call's own. Nothing of the program stands here. -/
namespace Go.X
open Go Go.RowKit
theorem Sl.Ok.setI {r : Sl} {n : Nat} {l : List Int} (h : r.Ok n 1 (ints l)) (i : Nat) (x : Int) : r.Ok n 1 (ints (l.set i x)) :=
  ⟨by have := h.len; simpa [ints] using this, h.cap, h.max, h.nil, fun b hb => by have := h.full b hb; simpa [ints] using this⟩
theorem Src.ofSl {w0 : World} {own : Own} {r : Sl} {n s : Nat} {E : TypeId} {cells : List Value} (j : Nat) (hok : r.Ok n s cells) (hi : own[j]? = some (r.ent E cells)) : Src w0 own r.addr n cells := by
  cases hb : r.blk with
  | none => exact .inl (by have h1 := hok.nil hb; have h2 := hok.cap; omega)
  | some b =>
    have e : r.addr = some ⟨b, 0, none⟩ := by simp [Sl.addr, hb]
    rw [e]
    exact .inr ⟨b, 0, rfl, Mem.own (i := j) (k := cells.length) (l := cells ++ r.sp) (E := E) (fz := (0, 0)) (by rw [hi]; simp [Sl.ent, hb]) (takeAt_append (takeAt_full rfl))⟩
section
variable {C : Cx} {Q : Post} {env : Env} {own : Own} {D : List Deferred} {ops : Array Oper} {rest : List Oper}
variable {d : Nat} {ty : TypeId} {pos : String} {aft : Array Edge} {g : Option (Nat × Bool)} {x y : Operand} {T : TypeId}
theorem SXL.storeI {b off n i : Nat} (j : Nat) {r : Sl} {E : TypeId} {l : List Int} {X : Int} (hT : sizeP C.P T = some 1) (hx : ev env x = some (.pointer (some ⟨b, off, none⟩))) (hy : ev env y = some (.int .i64 X)) (hbl : r.blk = some b)
    (hi : own[j]? = some (r.ent E (ints l))) (_hok : r.Ok n 1 (ints l)) (ho : off = i) (hlt : i < l.length)
    (h : SXL C ops rest Q ⟨env, own.set j (r.ent E (ints (l.set i X))), D⟩) (hw : Wanted ops g env = some true := by rfl) (hdr : C.dr = false := by rfl) :
    SXL C ops ({ dst := none, op := .store T x y, type := ty, pos, after := aft, guard := g } :: rest) Q ⟨env, own, D⟩ := by
  have e : ∀ m : List Int, r.ent E (ints m) = (b, .cells ⟨ints m ++ r.sp⟩ E (0, 0)) := fun m => by simp [Sl.ent, hbl]
  rw [e] at hi h
  subst ho
  refine SXL.store j hT hx hy hi rfl rfl (l' := ints (l.set off X) ++ r.sp) ?_ h (by rfl) (by rfl) hw hdr
  rw [putAt_one _ (by simp [ints]; omega)]
  rw [List.set_append_left _ _ (by simpa [ints] using hlt)]
  simp [ints, List.map_set]
end
end Go.X

/- The walks of the package town: the streets that prove that there is not enough. -/
namespace Go.Proofs.YtolcicaclflagaaDoor
open Go.X Go.S Go.T Go.RowKit
theorem or_any (l : List Int) (ao : Option Addr) (c : Nat) (hl : l.length ≤ 1000) (w : World) (h : RowsAt w ao 1 (ones l)) :
    CallsR Tryd.prog 71 [.slice ao l.length c] w (fun v _ => v = .int .i64 (orL l)) := by
  refine CallsR.of_SX (n := 18) (rs := [.tmp 2]) Tryd.func71 rfl rfl rfl rfl ?_
  show SX _ _ _ ⟨[(0, .slice ao l.length c)], [], []⟩
  refine SX.seq ?_
  refine SX.region ?_
  refine SXL.assign rfl ?_
  refine SXL.nil ?_
  refine thenQ.normal ?_
  refine SX.seq ?_
  refine SX.region ?_
  refine SXL.assign rfl ?_
  refine SXL.nil ?_
  refine thenQ.normal ?_
  refine SX.seq ?_
  refine SX.seq ?_
  refine SX.region ?_
  refine SXL.move rfl ?_
  refine SXL.len is_33 rfl ?_
  refine SXL.move rfl ?_
  refine SXL.nil ?_
  refine thenQ.normal ?_
  refine SX.block ?_
  refine SX.loopG (α := Nat) [2, 3, 6, 7] rfl (fun k => [(8, .int .i64 ((k : Int)))]) (fun k => []) (fun k => k ≤ l.length ∧ orL l = orL (l.drop k)) (fun k => l.length - k) 0 ⟨Nat.zero_le _, rfl⟩ ⟨rfl, trivial⟩ rfl ?_
  rintro k ⟨hk, he⟩
  refine SX.seq ?_
  refine SX.region ?_
  refine SXL.lss rfl rfl ?_
  refine SXL.nil ?_
  refine thenQ.normal ?_
  refine SX.seq ?_
  refine SX.condP rfl (fun c9 => ?_) (fun c9 => ?_)
  · refine SX.skip ?_
    refine thenQ.normal ?_
    refine SX.seq ?_
    refine SX.block ?_
    refine SX.seq ?_
    obtain ⟨b, o, ha, hm⟩ := oneI h (i := k) (by omega)
    have hd := drop_getD (l := l) (k := k) (by omega)
    refine SX.region ?_
    refine SXL.indexR el_33 rfl rfl ha (by omega) ?_
    refine SXL.load1 sh_3 rfl (hm _) ?_
    refine SXL.assign rfl ?_
    refine SXL.nil ?_
    refine thenQ.normal ?_
    refine SX.seq ?_
    refine SX.region ?_
    refine SXL.move rfl ?_
    refine SXL.move rfl ?_
    refine SXL.neqI rfl rfl ?_
    refine SXL.nil ?_
    refine thenQ.normal ?_
    refine SX.condP rfl (fun c14 => ?_) (fun c14 => ?_)
    · refine SX.seq ?_
      refine SX.region ?_
      refine SXL.move rfl ?_
      refine SXL.assign rfl ?_
      refine SXL.nil ?_
      refine thenQ.normal ?_
      refine SX.ret ?_
      refine blockQ.ret ?_
      refine thenQ.ret ?_
      refine thenQ.ret ?_
      refine blockQ.ret ?_
      refine thenQ.ret ?_
      refine retQ.one (ResAt.tmp rfl) ?_
      rw [he, hd, orL, if_pos c14]
    · refine SX.skip ?_
      refine blockQ.normal ?_
      refine thenQ.normal ?_
      refine SX.region ?_
      refine SXL.add rfl rfl (by omega) ?_
      refine SXL.move rfl ?_
      refine SXL.nil ?_
      refine thenQ.normal ?_
      refine ⟨k + 1, Meets.mk _ ⟨rfl, trivial⟩ ⟨rfl, rfl, rfl, rfl, trivial⟩ rfl, ⟨by omega, by rw [he, hd, orL, if_neg c14]⟩, (by omega)⟩
  · refine SX.exit ?_
    refine thenQ.exit ?_
    refine thenQ.exit ?_
    refine blockQ.exit ?_
    refine thenQ.normal ?_
    refine SX.seq ?_
    refine SX.region ?_
    refine SXL.move rfl ?_
    refine SXL.assign rfl ?_
    refine SXL.nil ?_
    refine thenQ.normal ?_
    refine SX.ret ?_
    refine retQ.one (ResAt.tmp rfl) ?_
    rw [he, List.drop_eq_nil_of_le (by omega)]; rfl
theorem sliceCmp (a b : List Int) (ao bo : Option Addr) (ac bc : Nat) (ha : a.length ≤ 1000) (hb : b.length ≤ 1000) (w : World) (h1 : RowsAt w ao 1 (ones a)) (h2 : RowsAt w bo 1 (ones b)) :
    CallsR Tryd.prog 73 [.slice ao a.length ac, .slice bo b.length bc] w (fun v _ => v = .int .i64 (scV a b)) := by
  refine CallsR.of_SX (n := 36) (rs := [.tmp 4]) Tryd.func73 rfl rfl rfl rfl ?_
  show SX _ _ _ ⟨[(0, .slice ao a.length ac), (1, .slice bo b.length bc)], [], []⟩
  refine SX.seq ?_
  refine SX.region ?_
  refine SXL.assign rfl ?_
  refine SXL.nil ?_
  refine thenQ.normal ?_
  refine SX.seq ?_
  refine SX.seq ?_
  refine SX.region ?_
  refine SXL.move rfl ?_
  refine SXL.len is_33 rfl ?_
  refine SXL.move rfl ?_
  refine SXL.nil ?_
  refine thenQ.normal ?_
  refine SX.block ?_
  refine SX.loopG (α := Nat) [0, 1, 4, 9, 10] rfl (fun k => [(11, .int .i64 ((k : Int)))]) (fun k => []) (fun k => k ≤ a.length ∧ k ≤ b.length ∧ scV a b = scV (a.drop k) (b.drop k)) (fun k => a.length - k) 0 ⟨Nat.zero_le _, Nat.zero_le _, rfl⟩ ⟨rfl, trivial⟩ rfl ?_
  rintro k ⟨hk, hkb, he⟩
  refine SX.seq ?_
  refine SX.region ?_
  refine SXL.lss rfl rfl ?_
  refine SXL.nil ?_
  refine thenQ.normal ?_
  refine SX.seq ?_
  refine SX.condP rfl (fun c12 => ?_) (fun c12 => ?_)
  · refine SX.skip ?_
    refine thenQ.normal ?_
    refine SX.seq ?_
    refine SX.block ?_
    refine SX.seq ?_
    obtain ⟨x1, o1, ha1, hm1⟩ := oneI h1 (i := k) (by omega)
    have hda := drop_getD (l := a) (k := k) (by omega)
    refine SX.region ?_
    refine SXL.move rfl ?_
    refine SXL.indexR el_33 rfl rfl ha1 (by omega) ?_
    refine SXL.load1 sh_3 rfl (hm1 _) ?_
    refine SXL.assign rfl ?_
    refine SXL.assign rfl ?_
    refine SXL.nil ?_
    refine thenQ.normal ?_
    refine SX.seq ?_
    refine SX.seq ?_
    refine SX.region ?_
    refine SXL.move rfl ?_
    refine SXL.move rfl ?_
    refine SXL.len is_33 rfl ?_
    refine SXL.geq rfl rfl ?_
    refine SXL.nil ?_
    refine thenQ.normal ?_
    refine SX.condP rfl (fun c19 => ?_) (fun c19 => ?_)
    · refine SX.seq ?_
      refine SX.region ?_
      refine SXL.assign rfl ?_
      refine SXL.nil ?_
      refine thenQ.normal ?_
      refine SX.ret ?_
      refine thenQ.ret ?_
      refine blockQ.ret ?_
      refine thenQ.ret ?_
      refine thenQ.ret ?_
      refine blockQ.ret ?_
      refine thenQ.ret ?_
      refine retQ.one (ResAt.tmp rfl) ?_
      rw [he, hda, dropN b (by omega)]; rfl
    · refine SX.skip ?_
      refine thenQ.normal ?_
      refine SX.seq ?_
      obtain ⟨x2, o2, hb1, hm2⟩ := oneI h2 (i := k) (by omega)
      have hdb := drop_getD (l := b) (k := k) (by omega)
      refine SX.region ?_
      refine SXL.move rfl ?_
      refine SXL.move rfl ?_
      refine SXL.indexR el_33 rfl rfl hb1 (by omega) ?_
      refine SXL.load1 sh_3 rfl (hm2 _) ?_
      refine SXL.assign rfl ?_
      refine SXL.nil ?_
      refine thenQ.normal ?_
      refine SX.seq ?_
      refine SX.region ?_
      refine SXL.move rfl ?_
      refine SXL.move rfl ?_
      refine SXL.call1 (.int .i64 (cmpV (a.getD k 0) (b.getD k 0))) fn_72 rfl (fun w hI => compare_any _ _ _) ?_
      refine SXL.assign rfl ?_
      refine SXL.nil ?_
      refine thenQ.normal ?_
      refine SX.seq ?_
      refine SX.region ?_
      refine SXL.move rfl ?_
      refine SXL.neqI rfl rfl ?_
      refine SXL.nil ?_
      refine thenQ.normal ?_
      refine SX.condP rfl (fun c28 => ?_) (fun c28 => ?_)
      · refine SX.seq ?_
        refine SX.region ?_
        refine SXL.move rfl ?_
        refine SXL.assign rfl ?_
        refine SXL.nil ?_
        refine thenQ.normal ?_
        refine SX.ret ?_
        refine blockQ.ret ?_
        refine thenQ.ret ?_
        refine thenQ.ret ?_
        refine blockQ.ret ?_
        refine thenQ.ret ?_
        refine retQ.one (ResAt.tmp rfl) ?_
        rw [he, hda, hdb, scV, if_pos c28]
      · refine SX.skip ?_
        refine blockQ.normal ?_
        refine thenQ.normal ?_
        refine SX.region ?_
        refine SXL.add rfl rfl (by omega) ?_
        refine SXL.move rfl ?_
        refine SXL.nil ?_
        refine thenQ.normal ?_
        refine ⟨k + 1, Meets.mk _ ⟨rfl, trivial⟩ ⟨rfl, rfl, rfl, rfl, rfl, trivial⟩ rfl, ⟨by omega, by omega, by rw [he, hda, hdb, scV, if_neg c28]⟩, (by omega)⟩
  · refine SX.exit ?_
    refine thenQ.exit ?_
    refine thenQ.exit ?_
    refine blockQ.exit ?_
    refine thenQ.normal ?_
    refine SX.seq ?_
    refine SX.seq ?_
    have hka : k = a.length := by omega
    subst hka
    refine SX.region ?_
    refine SXL.move rfl ?_
    refine SXL.len is_33 rfl ?_
    refine SXL.move rfl ?_
    refine SXL.len is_33 rfl ?_
    refine SXL.lss rfl rfl ?_
    refine SXL.nil ?_
    refine thenQ.normal ?_
    refine SX.condP rfl (fun c35 => ?_) (fun c35 => ?_)
    · refine SX.seq ?_
      refine SX.region ?_
      refine SXL.assign rfl ?_
      refine SXL.nil ?_
      refine thenQ.normal ?_
      refine SX.ret ?_
      refine thenQ.ret ?_
      refine retQ.one (ResAt.tmp rfl) ?_
      rw [he, dropN a (by omega), drop_getD (l := b) (k := a.length) (by omega)]; rfl
    · refine SX.skip ?_
      refine thenQ.normal ?_
      refine SX.seq ?_
      refine SX.region ?_
      refine SXL.assign rfl ?_
      refine SXL.nil ?_
      refine thenQ.normal ?_
      refine SX.ret ?_
      refine retQ.one (ResAt.tmp rfl) ?_
      rw [he, dropN a (by omega), dropN b (by omega)]; rfl
theorem proof1_any (a b : List Int) (ao bo : Option Addr) (ac bc : Nat) (ha : a.length ≤ 1000) (hb : b.length ≤ 1000) (w : World) (h1 : RowsAt w ao 1 (ones a)) (h2 : RowsAt w bo 1 (ones b)) :
    CallsR Tryd.prog 70 [.slice ao a.length ac, .slice bo b.length bc] w (fun v _ => v = .int .i64 (pcV a b)) := by
  refine CallsR.of_SX (n := 15) (rs := [.tmp 4]) Tryd.func70 rfl rfl rfl rfl ?_
  show SX _ _ _ ⟨[(0, .slice ao a.length ac), (1, .slice bo b.length bc)], [], []⟩
  refine SX.seq ?_
  refine SX.region ?_
  refine SXL.assign rfl ?_
  refine SXL.nil ?_
  refine thenQ.normal ?_
  refine SX.seq ?_
  refine SX.region ?_
  refine SXL.move rfl ?_
  refine SXL.len is_33 rfl ?_
  refine SXL.move rfl ?_
  refine SXL.len is_33 rfl ?_
  refine SXL.call1 (.int .i64 (cmpV (a.length : Int) (b.length : Int))) fn_72 rfl (fun w hI => compare_any _ _ _) ?_
  refine SXL.move rfl ?_
  refine SXL.move rfl ?_
  refine SXL.call1 (.int .i64 (scV a b)) fn_73 rfl (fun w hI => sliceCmp a b ao bo ac bc ha hb w (h1.inv hI) (h2.inv hI)) ?_
  refine SXL.buildSlice et_33 zp_3 rfl rfl rfl rfl ?_; intro b0
  refine SXL.call1 (.int .i64 (pcV a b)) fn_71 rfl (fun w hI => or_any [cmpV (a.length : Int) (b.length : Int), scV a b] _ _ (by simp) w (ownOnes hI [cmpV (a.length : Int) (b.length : Int), scV a b] (i := 0) rfl)) ?_
  refine SXL.assign rfl ?_
  refine SXL.nil ?_
  refine thenQ.normal ?_
  refine SX.ret ?_
  refine retQ.one (ResAt.tmp rfl) ?_
  rfl
theorem proof1_n (a b : List Int) (ao bo : Option Addr) (an bn ac bc : Nat) (hn : a.length = an) (hm : b.length = bn) (ha : a.length ≤ 1000) (hb : b.length ≤ 1000) (w : World) (h1 : RowsAt w ao 1 (ones a)) (h2 : RowsAt w bo 1 (ones b)) :
    CallsR Tryd.prog 70 [.slice ao an ac, .slice bo bn bc] w (fun v _ => v = .int .i64 (pcV a b)) := by
  subst hn hm; exact proof1_any a b ao bo ac bc ha hb w h1 h2
theorem minLists (tr : List Trp) (ao : Option Addr) (c : Nat) (hl : 0 < tr.length) (hl2 : tr.length ≤ 1000) (hok : OkTr tr) (hsm : ∀ x ∈ tr, x.2.2.length ≤ 1000) (w : World) (h : TrAt w ao tr) :
    CallsR Tryd.prog 95 [.slice ao tr.length c, .func (.func 70) ⟨[]⟩ ⟨[]⟩] w (fun v _ => ∃ j, j < tr.length ∧ v = (tr.getD j default).1.val (tr.getD j default).2.1 ∧ (tr.getD j default).2.2 = minL (tr.map (·.2.2)) (tr.length - 1)) := by
  refine CallsR.of_SX (n := 33) (rs := [.tmp 4]) Tryd.func95 rfl rfl rfl rfl ?_
  show SX _ _ _ ⟨[(0, .slice ao tr.length c), (1, .func (.func 70) ⟨[]⟩ ⟨[]⟩)], [], []⟩
  refine SX.seq ?_
  refine SX.region ?_
  refine SXL.assign rfl ?_
  refine SXL.nil ?_
  refine thenQ.normal ?_
  refine SX.seq ?_
  refine SX.seq ?_
  refine SX.region ?_
  refine SXL.move rfl ?_
  refine SXL.len is_104 rfl ?_
  refine SXL.lss rfl rfl ?_
  refine SXL.nil ?_
  refine thenQ.normal ?_
  refine SX.condP rfl (fun c9 => ?_) (fun c9 => ?_)
  · exfalso; omega
  refine SX.skip ?_
  refine thenQ.normal ?_
  refine SX.seq ?_
  obtain ⟨ba, oa, ha0, hm0⟩ := h.row hl
  refine SX.region ?_
  refine SXL.move rfl ?_
  refine SXL.indexR el_104 rfl rfl ha0 (by omega) ?_
  refine SXL.load1 sh_33 rfl (hm0 _) ?_
  refine SXL.assign rfl ?_
  refine SXL.nil ?_
  refine thenQ.normal ?_
  refine SX.seq ?_
  refine SX.seq ?_
  refine SX.region ?_
  refine SXL.assign rfl ?_
  refine SXL.nil ?_
  refine thenQ.normal ?_
  refine SX.block ?_
  refine SX.loopG (α := Nat × Nat) [0, 1, 4] rfl (fun ⟨k, j⟩ => [(6, .int .i64 ((k : Int))), (5, (tr.getD j default).1.val (tr.getD j default).2.1)]) (fun ⟨k, j⟩ => []) (fun ⟨k, j⟩ => 1 ≤ k ∧ k ≤ tr.length ∧ j < k ∧ (tr.getD j default).2.2 = minL (tr.map (·.2.2)) (k - 1)) (fun ⟨k, j⟩ => tr.length - k) (1, 0) ⟨Nat.le_refl _, by omega, by omega, (tr_map_get hl).symm⟩ ⟨rfl, rfl, trivial⟩ rfl ?_
  rintro ⟨k, j⟩ ⟨hk1, hk, hjk, hj⟩
  refine SX.seq ?_
  refine SX.seq ?_
  refine SX.region ?_
  refine SXL.move rfl ?_
  refine SXL.move rfl ?_
  refine SXL.len is_104 rfl ?_
  refine SXL.lss rfl rfl ?_
  refine SXL.nil ?_
  refine thenQ.normal ?_
  refine SX.condP rfl (fun c17 => ?_) (fun c17 => ?_)
  · refine SX.skip ?_
    refine thenQ.normal ?_
    refine SX.seq ?_
    refine SX.block ?_
    refine SX.seq ?_
    have hk3 : k < tr.length := by omega
    have hj3 : j < tr.length := by omega
    obtain ⟨b, o, ha, hm⟩ := h.row hk3
    refine SX.region ?_
    refine SXL.move rfl ?_
    refine SXL.move rfl ?_
    refine SXL.move rfl ?_
    refine SXL.indexR el_104 rfl rfl ha (by omega) ?_
    refine SXL.load1 sh_33 rfl (hm _) ?_
    refine SXL.move rfl ?_
    refine SXL.call1V (.int .i64 (pcV (tr.getD k default).2.2 (tr.getD j default).2.2)) fn_70 rfl rfl (fun w hI => proof1_n (tr.getD k default).2.2 (tr.getD j default).2.2 (tr.getD k default).1.addr (tr.getD j default).1.addr (tr.getD k default).2.1 (tr.getD j default).2.1 (tr.getD k default).1.cap (tr.getD j default).1.cap (Ok.n (hok _ (tr_get hk3))).symm (Ok.n (hok _ (tr_get hj3))).symm (hsm _ (tr_get hk3)) (hsm _ (tr_get hj3)) w ((h.each _ (tr_get hk3)).inv hI) ((h.each _ (tr_get hj3)).inv hI)) ?_
    refine SXL.lss rfl rfl ?_
    refine SXL.nil ?_
    refine thenQ.normal ?_
    refine SX.condP rfl (fun c27 => ?_) (fun c27 => ?_)
    · refine SX.region ?_
      refine SXL.move rfl ?_
      refine SXL.move rfl ?_
      refine SXL.indexR el_104 rfl rfl ha (by omega) ?_
      refine SXL.load1 sh_33 rfl (hm _) ?_
      refine SXL.assign rfl ?_
      refine SXL.nil ?_
      refine blockQ.normal ?_
      refine thenQ.normal ?_
      refine SX.region ?_
      refine SXL.move rfl ?_
      refine SXL.add rfl rfl (by omega) ?_
      refine SXL.assign rfl ?_
      refine SXL.nil ?_
      refine thenQ.normal ?_
      refine ⟨(k + 1, _), Meets.mk _ ⟨rfl, rfl, trivial⟩ ⟨rfl, rfl, rfl, trivial⟩ rfl, ⟨by omega, by omega, ?_⟩, (show tr.length - (k + 1) < tr.length - k by omega)⟩
      have em : minL (tr.map (·.2.2)) (k + 1 - 1) = if BefP (tr.getD k default).2.2 (tr.getD j default).2.2 then (tr.getD k default).2.2 else (tr.getD j default).2.2 := by
        obtain ⟨m, rfl⟩ : ∃ m, k = m + 1 := ⟨k - 1, by omega⟩
        show minL _ (m + 1) = _
        rw [minL, tr_map_get hk3, hj]; rfl
      first
        | exact (show k < k + 1 ∧ (tr.getD k default).2.2 = _ from ⟨by omega, by rw [em, if_pos (pcV_neg.1 c27)]⟩)
        | exact (show j < k + 1 ∧ (tr.getD j default).2.2 = _ from ⟨by omega, by rw [em, if_neg (fun h2 => c27 (pcV_neg.2 h2))]⟩)
    · refine SX.skip ?_
      refine blockQ.normal ?_
      refine thenQ.normal ?_
      refine SX.region ?_
      refine SXL.move rfl ?_
      refine SXL.add rfl rfl (by omega) ?_
      refine SXL.assign rfl ?_
      refine SXL.nil ?_
      refine thenQ.normal ?_
      refine ⟨(k + 1, _), Meets.mk _ ⟨rfl, rfl, trivial⟩ ⟨rfl, rfl, rfl, trivial⟩ rfl, ⟨by omega, by omega, ?_⟩, (show tr.length - (k + 1) < tr.length - k by omega)⟩
      have em : minL (tr.map (·.2.2)) (k + 1 - 1) = if BefP (tr.getD k default).2.2 (tr.getD j default).2.2 then (tr.getD k default).2.2 else (tr.getD j default).2.2 := by
        obtain ⟨m, rfl⟩ : ∃ m, k = m + 1 := ⟨k - 1, by omega⟩
        show minL _ (m + 1) = _
        rw [minL, tr_map_get hk3, hj]; rfl
      first
        | exact (show k < k + 1 ∧ (tr.getD k default).2.2 = _ from ⟨by omega, by rw [em, if_pos (pcV_neg.1 c27)]⟩)
        | exact (show j < k + 1 ∧ (tr.getD j default).2.2 = _ from ⟨by omega, by rw [em, if_neg (fun h2 => c27 (pcV_neg.2 h2))]⟩)
  · refine SX.exit ?_
    refine thenQ.exit ?_
    refine thenQ.exit ?_
    refine blockQ.exit ?_
    refine thenQ.normal ?_
    refine SX.seq ?_
    obtain rfl : k = tr.length := by omega
    refine SX.region ?_
    refine SXL.move rfl ?_
    refine SXL.assign rfl ?_
    refine SXL.nil ?_
    refine thenQ.normal ?_
    refine SX.ret ?_
    refine retQ.one (ResAt.tmp rfl) ?_
    exact ⟨j, hjk, rfl, hj⟩
theorem firstLists (tr : List Trp) (ao : Option Addr) (c : Nat) (hl : 0 < tr.length) (hl2 : tr.length ≤ 1000) (hok : OkTr tr) (hsm : ∀ x ∈ tr, x.2.2.length ≤ 1000) (w : World) (h : TrAt w ao tr) :
    CallsR Tryd.prog 69 [.slice ao tr.length c, .func (.func 70) ⟨[]⟩ ⟨[]⟩] w (fun v _ => ∃ j, j < tr.length ∧ v = (tr.getD j default).1.val (tr.getD j default).2.1 ∧ (tr.getD j default).2.2 = minL (tr.map (·.2.2)) (tr.length - 1)) := by
  refine CallsR.of_SX (n := 8) (rs := [.tmp 4]) Tryd.func69 rfl rfl rfl rfl ?_
  show SX _ _ _ ⟨[(0, .slice ao tr.length c), (1, .func (.func 70) ⟨[]⟩ ⟨[]⟩)], [], []⟩
  refine SX.seq ?_
  refine SX.region ?_
  refine SXL.assign rfl ?_
  refine SXL.nil ?_
  refine thenQ.normal ?_
  refine SX.seq ?_
  refine SX.region ?_
  refine SXL.move rfl ?_
  refine SXL.move rfl ?_
  refine SXL.callP (fun v => ∃ j, j < tr.length ∧ v = (tr.getD j default).1.val (tr.getD j default).2.1 ∧ (tr.getD j default).2.2 = minL (tr.map (·.2.2)) (tr.length - 1)) fn_95 rfl (fun w hI => minLists tr ao c hl hl2 hok hsm w (h.inv hI)) ?_; rintro _ ⟨j, hjl, rfl, hj⟩
  refine SXL.assign rfl ?_
  refine SXL.nil ?_
  refine thenQ.normal ?_
  refine SX.ret ?_
  refine retQ.one (ResAt.tmp rfl) ?_
  exact ⟨j, hjl, rfl, hj⟩
set_option maxHeartbeats 8000000 in
theorem tproof_any (u : Su) (fo so : Option Addr) (fc sc : Nat) (fa : Nat → FA) (sa : Nat → DA) (week : Int) (best : Bool) (hl : LitP u) (w : World) (hg : Gt w) (hs : SuAt w u fo so fa sa) :
    CallsR Tryd.prog 27 [.agg ⟨[.slice fo u.founts.length fc, .slice so u.streets.length sc]⟩, .int .i64 week, .bool best] w (PrR (prL u week best) (prE u week best)) := by
  refine CallsR.of_SX (n := 61) (rs := [.tmp 6, .tmp 7]) Tryd.func27 rfl rfl rfl rfl ?_
  show SX _ _ _ ⟨[(0, .agg ⟨[.slice fo u.founts.length fc, .slice so u.streets.length sc]⟩), (1, .int .i64 week), (2, .bool best)], [], []⟩
  refine SX.seq ?_
  refine SX.region ?_
  refine SXL.box rfl rfl ?_; intro b0
  refine SXL.assign rfl ?_
  refine SXL.assign rfl ?_
  refine SXL.nil ?_
  refine thenQ.normal ?_
  refine SX.scope ?_
  refine SX.seq ?_
  refine SX.region ?_
  refine SXL.loadNo 0 sh_25 rfl rfl rfl ?_
  refine SXL.move rfl ?_
  refine SXL.move rfl ?_
  refine SXL.callF (DrR u fo so fc sc (week) (best) (askT u (week) (True) (0))) fn_42 rfl (fun w hI => tasked_any u fo so fc sc fa sa (week) (best) (True) (0) (fun h => absurd trivial h) hl w (hg.inv hI) (hs.inv hI)) ?_; rintro _ _ ⟨C, rn, N, hC1, hC2, hrn, rfl, rfl, hok⟩
  refine SXL.move rfl ?_
  refine SXL.extract rfl rfl ?_
  refine SXL.extract rfl rfl ?_
  refine SXL.alloc zp_78 ?_; intro b2
  refine SXL.store 2 sz_78 rfl rfl rfl rfl hC1 (putAt_all _ _ hC1) ?_ hC2
  refine SXL.assign rfl ?_
  refine SXL.nil ?_
  refine thenQ.normal ?_
  refine SX.seq ?_
  refine SX.seq ?_
  refine SX.region ?_
  refine SXL.move rfl ?_
  refine SXL.neqI rfl rfl ?_
  refine SXL.nil ?_
  refine thenQ.normal ?_
  refine SX.condP rfl (fun c23 => ?_) (fun c23 => ?_)
  · refine SX.seq ?_
    refine SX.region ?_
    refine SXL.move rfl ?_
    refine SXL.assign rfl ?_
    refine SXL.assign rfl ?_
    refine SXL.nil ?_
    refine thenQ.normal ?_
    refine SX.ret ?_
    refine thenQ.ret ?_
    refine scopeQ.ret ?_
    refine retQ.dead [Sl.nil.ent 3 []] rfl ?_
    refine retQ.two (ResAt.tmp rfl) (ResAt.tmp rfl) ?_
    exact PrR.errs (by rw [prL, prE, if_pos c23, if_neg c23]) (by rw [prE, if_pos c23])
  · refine SX.skip ?_
    refine thenQ.normal ?_
    refine SX.seq ?_
    have he := Classical.not_not.1 c23
    obtain ⟨hv, hw, hp, ht⟩ := askT_ok (fun h => absurd trivial h) he
    obtain ⟨rfl, rfl⟩ := hok he
    have hz := hv.1
    have hz2 := hz
    unfold SizeP at hz2
    have hWl : ∀ best, (waterL u week best).length ≤ 4 := fun best => by rw [waterL_len]; omega
    have hP_ : ∀ best, (pad4 (waterL u week best)).length = 4 := fun best => pad4_len (hWl best)
    have hPs : ∀ best, Sm (pad4 (waterL u week best)) := fun best => pad_sm (water_sm hv ht hw best)
    have hLL := hl
    obtain ⟨hL0, hL1, hL2⟩ := hLL
    have hNl := needs_len u best
    have hW := hP_ best
    have hWs := hPs best
    have hz := hz2
    have hpw : (2 : Nat) ^ u.streets.length ≤ 32 := Nat.le_trans (Nat.pow_le_pow_right (by omega) hz.2) (by decide)
    refine SX.region ?_
    refine SXL.alloc zp_104 ?_; intro b3
    refine SXL.nil ?_
    refine thenQ.normal ?_
    refine SX.seq ?_
    refine SX.label ?_
    refine thenQ.normal ?_
    refine SX.seq ?_
    refine SX.seq ?_
    refine SX.pad (Sl.nil.ent 33 []) rfl ?_
    refine SX.region ?_
    refine SXL.loadNo 2 sh_78 rfl rfl (takeAt_full (k := 7) hC1) ?_
    refine SXL.callF (ItS u fo so fc sc (pad4 (waterL u week best)) (rn.val (needs u best).length)) fn_67 rfl (fun w hI => sets_any u fo so fc sc (pad4 (waterL u week best)) (rn.val (needs u best).length) w) ?_; rintro _ _ ⟨bi, rfl, rfl⟩
    refine SXL.nil ?_
    refine thenQ.normal ?_
    refine SX.block ?_
    refine SX.rangeFunc (f := 94) (nf := 79) (rs := []) rfl fn_94 Tryd.func94 rfl rfl rfl rfl ?_
    intro fn T r l ob hT hob
    refine SX.seq ?_
    refine SX.region ?_
    refine SXL.fieldAddr fp_78_0 rfl ?_
    refine SXL.fieldAddr fp_25_1 rfl ?_
    refine SXL.load1o 5 sh_23 rfl rfl rfl ?_
    refine SXL.len is_23 rfl ?_
    refine SXL.shlN rfl rfl (by omega) ?_
    refine SXL.move rfl ?_
    refine SXL.nil ?_
    refine thenQ.normal ?_
    refine SX.block ?_
    refine SX.loopW (α := Nat × Sl × Nat × List Value × List Trp × X.Own) [0, 1, 16] rfl (fun ⟨b, qa, na, ca, tr, P⟩ => [(17, .int .i64 ((b : Int)))]) (fun ⟨b, qa, na, ca, tr, P⟩ => [(b0, .cells ⟨[.slice fo u.founts.length fc, .slice so u.streets.length sc]⟩ 25 (0, 0)), rn.ent 3 (ints (needs u best)), (b2, .cells ⟨suW u fo so fc sc (pad4 (waterL u week best)) (rn.val (needs u best).length)⟩ 78 (0, 0)), (b3, .cells ⟨[qa.val na]⟩ 104 (0, 0)), qa.ent 33 ca, (bi, .cells ⟨suW u fo so fc sc (pad4 (waterL u week best)) (rn.val (needs u best).length)⟩ 78 (0, 0)), (r, .deferred (some [])), (l, ob .ready)]) (fun ⟨b, qa, na, ca, tr, P⟩ => P) (fun ⟨b, qa, na, ca, tr, P⟩ => b ≤ 2 ^ u.streets.length ∧ (qa.Ok na 1 ca ∧ ca = (tr.map rowP).flatten ∧ tr.map (·.2.2) = lkL u (pad4 (waterL u week best)) (needs u best) b ∧ OkTr tr ∧ TrHas P tr)) (fun ⟨b, qa, na, ca, tr, P⟩ => 2 ^ u.streets.length - b) (0, Sl.nil, 0, [], [], []) ⟨Nat.zero_le _, ⟨.none _, rfl, rfl, OkTr.nil, TrHas.nil _⟩⟩ ⟨rfl, trivial⟩ rfl ?_
    rintro ⟨b, qa, na, ca, tr, P⟩ ⟨hb, hC⟩
    obtain ⟨hqa, rfl, htr, hok, hP⟩ := hC
    have hlk := lkL_len u (pad4 (waterL u week best)) (needs u best) b
    have htl := congrArg List.length htr
    rw [List.length_map] at htl
    have hna := Ok.rows1 hqa
    refine SX.seq ?_
    refine SX.region ?_
    refine SXL.lss rfl rfl ?_
    refine SXL.nil ?_
    refine thenQ.normal ?_
    refine SX.seq ?_
    refine SX.condP rfl (fun c18 => ?_) (fun c18 => ?_)
    · refine SX.skip ?_
      refine thenQ.normal ?_
      refine SX.seq ?_
      refine SX.block ?_
      refine SX.seq ?_
      refine SX.region ?_
      refine SXL.move rfl ?_
      refine SXL.assign rfl ?_
      refine SXL.nil ?_
      refine thenQ.normal ?_
      refine SX.seq ?_
      refine SX.region ?_
      refine SXL.alloc zp_109 ?_; intro b8
      refine SXL.insN 8 ?_
      refine SXL.nil ?_
      refine thenQ.normal ?_
      refine SX.seq ?_
      refine SX.region ?_
      refine SXL.makeMap ?_; intro b9
      refine SXL.insN 9 ?_
      refine SXL.assign rfl ?_
      refine SXL.nil ?_
      refine thenQ.normal ?_
      refine SX.seq ?_
      refine SX.seq ?_
      refine SX.pad (Sl.nil.ent 3 []) rfl ?_
      refine SX.insN 10 ?_
      refine SX.region ?_
      refine SXL.fieldAddr fp_78_0 rfl ?_
      refine SXL.fieldAddr fp_25_1 rfl ?_
      refine SXL.load1o 5 sh_23 rfl rfl rfl ?_
      refine SXL.len is_23 rfl ?_
      refine SXL.move rfl ?_
      refine SXL.nil ?_
      refine thenQ.normal ?_
      refine SX.block ?_
      refine SX.loopW (α := Nat × Sl × Nat × List Value × List (Int × Nat) × Nat) [0, 1, 3, 4, 5, 16, 17, 23, 24] rfl (fun ⟨i, q, n, c, ks, cl⟩ => [(25, .int .i64 ((i : Int)))]) (fun ⟨i, q, n, c, ks, cl⟩ => [(b0, .cells ⟨[.slice fo u.founts.length fc, .slice so u.streets.length sc]⟩ 25 (0, 0)), rn.ent 3 (ints (needs u best)), (b2, .cells ⟨suW u fo so fc sc (pad4 (waterL u week best)) (rn.val (needs u best).length)⟩ 78 (0, 0)), (b3, .cells ⟨[qa.val na]⟩ 104 (0, 0)), qa.ent 33 (tr.map rowP).flatten, (bi, .cells ⟨suW u fo so fc sc (pad4 (waterL u week best)) (rn.val (needs u best).length)⟩ 78 (0, 0)), (r, .deferred (some [])), (l, ob .ready), (b8, .cells ⟨[q.val n, .int .i64 (0)]⟩ 109 (0, 0)), (b9, .map ⟨mkMap ks⟩ cl), q.ent 3 c]) (fun ⟨i, q, n, c, ks, cl⟩ => P) (fun ⟨i, q, n, c, ks, cl⟩ => i ≤ u.streets.length ∧ q.Ok n 1 c ∧ c = ints (memb b i) ∧ ∀ id, id ∈ mkeys ks ↔ opnB u b id i) (fun ⟨i, q, n, c, ks, cl⟩ => u.streets.length - i) (0, Sl.nil, 0, [], [], 0) ⟨Nat.zero_le _, .none _, rfl, fun id => by simp [mkeys, opnB]⟩ ⟨rfl, trivial⟩ rfl ?_
      rintro ⟨i, q, n, c, ks, cl⟩ ⟨hi, ho, rfl, hks⟩
      have hn := Ok.n ho
      have hml := memb_len b i
      refine SX.seq ?_
      refine SX.region ?_
      refine SXL.lss rfl rfl ?_
      refine SXL.nil ?_
      refine thenQ.normal ?_
      refine SX.seq ?_
      refine SX.condP rfl (fun c26 => ?_) (fun c26 => ?_)
      · refine SX.skip ?_
        refine thenQ.normal ?_
        refine SX.seq ?_
        refine SX.block ?_
        refine SX.seq ?_
        obtain ⟨bs, os, ha, hm⟩ := hs.street (i := i) (by omega)
        have hLk := hL2 i (by omega)
        have hbi : b / 2 ^ i ≤ b := Nat.div_le_self _ _
        refine SX.region ?_
        refine SXL.move rfl ?_
        refine SXL.indexR el_23 rfl rfl ha (by omega) ?_
        refine SXL.loadN sh_73 rfl (hm _) rfl ?_
        refine SXL.alloc zp_73 ?_; intro b11
        refine SXL.insN 11 ?_
        refine SXL.assign rfl ?_
        refine SXL.store 11 sz_73 rfl rfl rfl rfl rfl rfl ?_
        refine SXL.nil ?_
        refine thenQ.normal ?_
        refine SX.seq ?_
        refine SX.seq ?_
        refine SX.region ?_
        refine SXL.move rfl ?_
        refine SXL.move rfl ?_
        refine SXL.shrN rfl rfl (by omega) ?_
        refine SXL.and1 rfl rfl (by omega) ?_
        refine SXL.eqlI rfl rfl ?_
        refine SXL.nil ?_
        refine thenQ.normal ?_
        refine SX.condP rfl (fun c34 => ?_) (fun c34 => ?_)
        · refine SX.exit ?_
          refine thenQ.exit ?_
          refine blockQ.exit ?_
          refine thenQ.normal ?_
          refine SX.region ?_
          refine SXL.add rfl rfl (by omega) ?_
          refine SXL.move rfl ?_
          refine SXL.nil ?_
          refine thenQ.normal ?_
          refine ⟨(i + 1, _, _, _, _, _), MeetsW.mk0 11 12 ⟨rfl, trivial⟩ ⟨rfl, rfl, rfl, rfl, rfl, rfl, rfl, rfl, rfl, trivial⟩ rfl rfl, ?_, (show u.streets.length - (i + 1) < u.streets.length - i by omega)⟩
          refine ⟨by omega, ?_⟩
          first
            | exact ⟨o_39, by rw [memb, if_pos (show hasI b i by unfold hasI; omega), ints_snoc], opens_add hks (show hasI b i by unfold hasI; omega) (fun id => by rw [hks2 id, List.take_of_length_le (by omega)])⟩
            | exact ⟨ho, by rw [memb, if_neg (show ¬hasI b i by unfold hasI; omega)], opens_same hks (show ¬hasI b i by unfold hasI; omega)⟩
        · refine SX.skip ?_
          refine thenQ.normal ?_
          refine SX.seq ?_
          refine SX.region ?_
          refine SXL.fieldAddr fp_109_0 rfl ?_
          refine SXL.load1o 8 sh_33 rfl rfl rfl ?_
          refine SXL.move rfl ?_
          refine SXL.buildSlice et_33 zp_3 rfl rfl rfl rfl ?_; intro b12
          refine SXL.insN 12 ?_
          refine SXL.append 10 ap_33 rfl rfl ho rfl (.inr ⟨_, _, rfl, Mem.own (i := 12) rfl (takeAt_all _)⟩) rfl rfl ⟨by simp only [maxLen]; omega, by omega⟩ ?_; intro r_39 o_39
          refine SXL.fieldAddr fp_109_0 rfl ?_
          refine SXL.store 8 sz_33 rfl rfl rfl rfl rfl rfl ?_
          refine SXL.nil ?_
          refine thenQ.normal ?_
          refine SX.seq ?_
          refine SX.region ?_
          refine SXL.fieldAddr fp_73_3 rfl ?_
          refine SXL.load1o 11 sh_33 rfl rfl rfl ?_
          refine SXL.len is_33 rfl ?_
          refine SXL.move rfl ?_
          refine SXL.nil ?_
          refine thenQ.normal ?_
          refine SX.block ?_
          refine SX.loopW (α := Nat × List (Int × Nat) × Nat) [0, 1, 3, 4, 5, 6, 7, 16, 17, 23, 24, 25, 42, 43] rfl (fun ⟨j, ks2, cl2⟩ => [(44, .int .i64 ((j : Int)))]) (fun ⟨j, ks2, cl2⟩ => [(b0, .cells ⟨[.slice fo u.founts.length fc, .slice so u.streets.length sc]⟩ 25 (0, 0)), rn.ent 3 (ints (needs u best)), (b2, .cells ⟨suW u fo so fc sc (pad4 (waterL u week best)) (rn.val (needs u best).length)⟩ 78 (0, 0)), (b3, .cells ⟨[qa.val na]⟩ 104 (0, 0)), qa.ent 33 (tr.map rowP).flatten, (bi, .cells ⟨suW u fo so fc sc (pad4 (waterL u week best)) (rn.val (needs u best).length)⟩ 78 (0, 0)), (r, .deferred (some [])), (l, ob .ready), (b8, .cells ⟨[r_39.val (n + 1), .int .i64 (0)]⟩ 109 (0, 0)), (b9, .map ⟨mkMap ks2⟩ cl2), r_39.ent 3 (ints (memb b i) ++ [.int .i64 (i : Int)]), (b11, .cells ⟨srC (u.streets.getD i default) (sa i)⟩ 73 (0, 0)), (b12, .cells ⟨[.int .i64 (i : Int)]⟩ 3 (0, 0))]) (fun ⟨j, ks2, cl2⟩ => P) (fun ⟨j, ks2, cl2⟩ => j ≤ (u.streets.getD i default).draws.length ∧ ∀ id, id ∈ mkeys ks2 ↔ (id ∈ mkeys ks ∨ id ∈ (u.streets.getD i default).draws.take j)) (fun ⟨j, ks2, cl2⟩ => (u.streets.getD i default).draws.length - j) (0, ks, cl) ⟨Nat.zero_le _, fun id => by simp⟩ ⟨rfl, trivial⟩ rfl ?_
          rintro ⟨j, ks2, cl2⟩ ⟨hj, hks2⟩
          refine SX.seq ?_
          refine SX.region ?_
          refine SXL.lss rfl rfl ?_
          refine SXL.nil ?_
          refine thenQ.normal ?_
          refine SX.seq ?_
          refine SX.condP rfl (fun c45 => ?_) (fun c45 => ?_)
          · refine SX.skip ?_
            refine thenQ.normal ?_
            refine SX.seq ?_
            refine SX.block ?_
            refine SX.seq ?_
            obtain ⟨bd, od, had, hmd⟩ := oneI (hs.draws i (by omega)) (i := j) (by omega)
            refine SX.region ?_
            refine SXL.indexR el_33 rfl rfl had (by omega) ?_
            refine SXL.load1 sh_3 rfl (hmd _) ?_
            refine SXL.assign rfl ?_
            refine SXL.nil ?_
            refine thenQ.normal ?_
            refine SX.region ?_
            refine SXL.move rfl ?_
            refine SXL.move rfl ?_
            refine SXL.mapPut 9 mk_94 rfl rfl rfl rfl ?_
            refine SXL.nil ?_
            refine blockQ.normal ?_
            refine thenQ.normal ?_
            refine SX.region ?_
            refine SXL.add rfl rfl (by omega) ?_
            refine SXL.move rfl ?_
            refine SXL.nil ?_
            refine thenQ.normal ?_
            refine ⟨(j + 1, _, _), MeetsW.mk0 13 13 ⟨rfl, trivial⟩ ⟨rfl, rfl, rfl, rfl, rfl, rfl, rfl, rfl, rfl, rfl, rfl, rfl, rfl, rfl, trivial⟩ rfl rfl, ⟨by omega, fun id => by rw [mput_keys, hks2 id, mem_take_snoc (show j < (u.streets.getD i default).draws.length by omega)]; exact ⟨fun h => h.elim (fun h => .inr (.inr h)) (fun h => h.elim .inl (fun h => .inr (.inl h))), fun h => h.elim (fun h => .inr (.inl h)) (fun h => h.elim (fun h => .inr (.inr h)) .inl)⟩⟩, (show (u.streets.getD i default).draws.length - (j + 1) < (u.streets.getD i default).draws.length - j by omega)⟩
          · refine SX.exit ?_
            refine thenQ.exit ?_
            refine thenQ.exit ?_
            refine blockQ.exit ?_
            refine blockQ.normal ?_
            refine thenQ.normal ?_
            refine SX.region ?_
            refine SXL.add rfl rfl (by omega) ?_
            refine SXL.move rfl ?_
            refine SXL.nil ?_
            refine thenQ.normal ?_
            refine ⟨(i + 1, _, _, _, _, _), MeetsW.mk0 11 13 ⟨rfl, trivial⟩ ⟨rfl, rfl, rfl, rfl, rfl, rfl, rfl, rfl, rfl, trivial⟩ rfl rfl, ?_, (show u.streets.length - (i + 1) < u.streets.length - i by omega)⟩
            refine ⟨by omega, ?_⟩
            first
              | exact ⟨o_39, by rw [memb, if_pos (show hasI b i by unfold hasI; omega), ints_snoc], opens_add hks (show hasI b i by unfold hasI; omega) (fun id => by rw [hks2 id, List.take_of_length_le (by omega)])⟩
              | exact ⟨ho, by rw [memb, if_neg (show ¬hasI b i by unfold hasI; omega)], opens_same hks (show ¬hasI b i by unfold hasI; omega)⟩
      · refine SX.exit ?_
        refine thenQ.exit ?_
        refine thenQ.exit ?_
        refine blockQ.exit ?_
        refine thenQ.normal ?_
        refine SX.seq ?_
        refine SX.seq ?_
        obtain rfl : i = u.streets.length := by omega
        refine SX.region ?_
        refine SXL.fieldAddr fp_78_0 rfl ?_
        refine SXL.fieldAddr fp_25_0 rfl ?_
        refine SXL.load1o 5 sh_22 rfl rfl rfl ?_
        refine SXL.len is_22 rfl ?_
        refine SXL.move rfl ?_
        refine SXL.nil ?_
        refine thenQ.normal ?_
        refine SX.block ?_
        refine SX.loopW (α := Nat × Int) [0, 1, 4, 5, 16, 17, 54, 55] rfl (fun ⟨k, th⟩ => [(56, .int .i64 ((k : Int)))]) (fun ⟨k, th⟩ => [(b0, .cells ⟨[.slice fo u.founts.length fc, .slice so u.streets.length sc]⟩ 25 (0, 0)), rn.ent 3 (ints (needs u best)), (b2, .cells ⟨suW u fo so fc sc (pad4 (waterL u week best)) (rn.val (needs u best).length)⟩ 78 (0, 0)), (b3, .cells ⟨[qa.val na]⟩ 104 (0, 0)), qa.ent 33 (tr.map rowP).flatten, (bi, .cells ⟨suW u fo so fc sc (pad4 (waterL u week best)) (rn.val (needs u best).length)⟩ 78 (0, 0)), (r, .deferred (some [])), (l, ob .ready), (b8, .cells ⟨[q.val n, .int .i64 (th)]⟩ 109 (0, 0)), (b9, .map ⟨mkMap ks⟩ cl), q.ent 3 (ints (memb b u.streets.length))]) (fun ⟨k, th⟩ => P) (fun ⟨k, th⟩ => k ≤ u.founts.length ∧ th = thrTo u b (pad4 (waterL u week best)) k) (fun ⟨k, th⟩ => u.founts.length - k) (0, 0) ⟨Nat.zero_le _, rfl⟩ ⟨rfl, trivial⟩ rfl ?_
        rintro ⟨k, th⟩ ⟨hk, rfl⟩
        have hth := thrTo_in (u := u) (b := b) hWs k
        have hwk := hWs k
        refine SX.seq ?_
        refine SX.region ?_
        refine SXL.lss rfl rfl ?_
        refine SXL.nil ?_
        refine thenQ.normal ?_
        refine SX.seq ?_
        refine SX.condP rfl (fun c57 => ?_) (fun c57 => ?_)
        · refine SX.skip ?_
          refine thenQ.normal ?_
          refine SX.seq ?_
          refine SX.block ?_
          refine SX.seq ?_
          obtain ⟨bf, of, haf, hmf⟩ := hs.fount (i := k) (by omega)
          refine SX.region ?_
          refine SXL.move rfl ?_
          refine SXL.indexR el_22 rfl rfl haf (by omega) ?_
          refine SXL.loadN sh_70 rfl (hmf _) rfl ?_
          refine SXL.alloc zp_70 ?_; intro b11
          refine SXL.insN 11 ?_
          refine SXL.assign rfl ?_
          refine SXL.store 11 sz_70 rfl rfl rfl rfl rfl rfl ?_
          refine SXL.nil ?_
          refine thenQ.normal ?_
          refine SX.seq ?_
          refine SX.region ?_
          refine SXL.move rfl ?_
          refine SXL.fieldAddr fp_70_0 rfl ?_
          refine SXL.load1o 11 sh_3 rfl rfl rfl ?_
          refine SXL.mapGet 9 mk_94 rfl rfl rfl ?_
          refine SXL.nil ?_
          refine thenQ.normal ?_
          refine SX.condP rfl (fun c64 => ?_) (fun c64 => ?_)
          · refine SX.draw 8 (by kernel_rfl) (by kernel_rfl) {} ?_
            refine SXA.take 0 8 rfl (by kernel_rfl) rfl ?_
            refine SXL.fieldAddr fp_109_1 rfl ?_
            refine SXL.load1o 8 sh_3 rfl rfl rfl ?_
            refine SXL.move rfl ?_
            refine SXL.fieldAddr fp_78_1 rfl ?_
            refine SXL.indexA el_76 rfl rfl (by omega) ?_
            refine SXL.load1o 5 sh_3 rfl rfl (welC_at (i := k) (by simp) (by omega)) ?_
            refine SXL.add rfl rfl (by omega) ?_
            refine SXL.fieldAddr fp_109_1 rfl ?_
            refine SXL.nil ⟨rfl, rfl, rfl, ?_⟩
            refine SXA.done (by kernel_rfl) ?_
            refine SXL.store 8 sz_3 rfl rfl rfl rfl rfl rfl ?_
            refine SXL.nil ?_
            refine blockQ.normal ?_
            refine thenQ.normal ?_
            refine SX.region ?_
            refine SXL.add rfl rfl (by omega) ?_
            refine SXL.move rfl ?_
            refine SXL.nil ?_
            refine thenQ.normal ?_
            refine ⟨(k + 1, _), MeetsW.mk0 11 12 ⟨rfl, trivial⟩ ⟨rfl, rfl, rfl, rfl, rfl, rfl, rfl, rfl, trivial⟩ rfl rfl, ⟨by omega, ?_⟩, (show u.founts.length - (k + 1) < u.founts.length - k by omega)⟩
            first
              | (rw [thrTo, if_pos ((hks _).1 c64)])
              | (rw [thrTo, if_neg (fun h => c64 ((hks _).2 h))])
          · refine SX.skip ?_
            refine blockQ.normal ?_
            refine thenQ.normal ?_
            refine SX.region ?_
            refine SXL.add rfl rfl (by omega) ?_
            refine SXL.move rfl ?_
            refine SXL.nil ?_
            refine thenQ.normal ?_
            refine ⟨(k + 1, _), MeetsW.mk0 11 12 ⟨rfl, trivial⟩ ⟨rfl, rfl, rfl, rfl, rfl, rfl, rfl, rfl, trivial⟩ rfl rfl, ⟨by omega, ?_⟩, (show u.founts.length - (k + 1) < u.founts.length - k by omega)⟩
            first
              | (rw [thrTo, if_pos ((hks _).1 c64)])
              | (rw [thrTo, if_neg (fun h => c64 ((hks _).2 h))])
        · refine SX.exit ?_
          refine thenQ.exit ?_
          refine thenQ.exit ?_
          refine blockQ.exit ?_
          refine thenQ.normal ?_
          refine SX.seq ?_
          obtain rfl : k = u.founts.length := by omega
          refine SX.region ?_
          refine SXL.move rfl ?_
          refine SXL.loadNo 8 sh_109 rfl rfl rfl ?_
          refine SXL.yield hT hob 7 rfl rfl rfl rfl rfl ?_
          have hn := Ok.n ho
          subst hn
          have hml2 := memb_len b u.streets.length
          refine SX.region ?_
          refine SXL.alloc zp_109 ?_; intro b11
          refine SXL.insN 11 ?_
          refine SXL.store 11 sz_109 rfl rfl rfl rfl rfl rfl ?_
          refine SXL.nil ?_
          refine ⟨rfl, ?_⟩
          refine SX.block ?_
          refine SX.seq ?_
          refine SX.seq ?_
          refine SX.draw 7 (by kernel_rfl) (by kernel_rfl) {} ?_
          refine SXA.take 0 7 rfl (by kernel_rfl) rfl ?_
          refine SXL.loadNo 11 sh_109 rfl rfl rfl ?_
          refine SXL.fieldAddr fp_78_2 rfl ?_
          refine SXL.load1o 2 sh_33 rfl rfl (welC_need (hP_ _)) ?_
          refine SXL.call1 (.int .i64 (sumIx (memb b u.streets.length) (needs u best) (memb b u.streets.length).length)) fn_68 rfl (fun w hI => of_any (memb b u.streets.length) (needs u best) (thrTo u b (pad4 (waterL u week best)) u.founts.length) q.addr rn.addr q.cap rn.cap (by have := memb_len b u.streets.length; omega) (fun x hx => by have := memb_in b _ x hx; omega) (needs_sm hv _) w (slOnes hI ho (i := 10) rfl) (slOnes hI hrn (i := 1) rfl)) ?_
          refine SXL.fieldAddr fp_109_1 rfl ?_
          refine SXL.load1o 11 sh_3 rfl rfl rfl ?_
          refine SXL.leq rfl rfl ?_
          refine SXL.nil ⟨rfl, rfl, rfl, ?_⟩
          refine SXA.done (by kernel_rfl) ?_
          refine SXL.nil ?_
          refine thenQ.normal ?_
          refine SX.condP rfl (fun c34 => ?_) (fun c34 => ?_)
          · refine SX.exit ?_
            refine thenQ.exit ?_
            refine blockQ.exit ?_
            refine ⟨rfl, ?_⟩
            refine SXL.not rfl ?_
            refine SXL.nil ?_
            refine thenQ.normal ?_
            refine SX.condP rfl (fun c77 => ?_) (fun c77 => ?_)
            · exfalso; exact c77 trivial
            refine SX.skip ?_
            refine blockQ.normal ?_
            refine thenQ.normal ?_
            refine SX.region ?_
            refine SXL.add rfl rfl (by omega) ?_
            refine SXL.move rfl ?_
            refine SXL.nil ?_
            refine thenQ.normal ?_
            refine ⟨(b + 1, _, _, _, tr, P), MeetsW.mk0 8 12 ⟨rfl, trivial⟩ ⟨rfl, rfl, rfl, trivial⟩ rfl rfl, ?_, (show 2 ^ u.streets.length - (b + 1) < 2 ^ u.streets.length - b by omega)⟩
            rw [sumB_memb hNl] at c34
            have elk : LackP u (pad4 (waterL u week best)) (needs u best) b ↔ ¬(sumB b (needs u best) ≤ thrTo u b (pad4 (waterL u week best)) u.founts.length) := by unfold LackP thr; omega
            first
              | exact ⟨by omega, o_55, by rw [List.map_append, List.flatten_append]; rfl, by rw [List.map_append, htr, lkL, if_pos (elk.2 c34), idsB_map, List.take_length]; rfl, hok.add ho2, hP.add ho2⟩
              | exact ⟨by omega, hqa, rfl, by rw [htr, lkL, if_neg (fun h => elk.1 h c34)], hok, hP⟩
          · refine SX.skip ?_
            refine thenQ.normal ?_
            refine SX.seq ?_
            refine SX.region ?_
            refine SXL.assign rfl ?_
            refine SXL.nil ?_
            refine thenQ.normal ?_
            refine SX.seq ?_
            refine SX.seq ?_
            refine SX.pad (Sl.nil.ent 3 []) rfl ?_
            refine SX.insN 12 ?_
            refine SX.region ?_
            refine SXL.fieldAddr fp_109_0 rfl ?_
            refine SXL.load1o 11 sh_33 rfl rfl rfl ?_
            refine SXL.len is_33 rfl ?_
            refine SXL.move rfl ?_
            refine SXL.nil ?_
            refine thenQ.normal ?_
            refine SX.block ?_
            refine SX.loopW (α := Nat × Sl × Nat × List Value) [3, 6, 7, 10, 36, 37] rfl (fun ⟨k, q2, n2, c2⟩ => [(38, .int .i64 ((k : Int))), (12, q2.val n2)]) (fun ⟨k, q2, n2, c2⟩ => [(b0, .cells ⟨[.slice fo u.founts.length fc, .slice so u.streets.length sc]⟩ 25 (0, 0)), rn.ent 3 (ints (needs u best)), (b2, .cells ⟨suW u fo so fc sc (pad4 (waterL u week best)) (rn.val (needs u best).length)⟩ 78 (0, 0)), (b3, .cells ⟨[qa.val na]⟩ 104 (0, 0)), qa.ent 33 (tr.map rowP).flatten, (bi, .cells ⟨suW u fo so fc sc (pad4 (waterL u week best)) (rn.val (needs u best).length)⟩ 78 (0, 0)), (r, .deferred (some [])), (l, ob .busy), (b8, .cells ⟨[q.val (memb b u.streets.length).length, .int .i64 (thrTo u b (pad4 (waterL u week best)) u.founts.length)]⟩ 109 (0, 0)), (b9, .map ⟨mkMap ks⟩ cl), q.ent 3 (ints (memb b u.streets.length)), (b11, .cells ⟨[q.val (memb b u.streets.length).length, .int .i64 (thrTo u b (pad4 (waterL u week best)) u.founts.length)]⟩ 109 (0, 0)), q2.ent 3 c2]) (fun ⟨k, q2, n2, c2⟩ => P) (fun ⟨k, q2, n2, c2⟩ => k ≤ (memb b u.streets.length).length ∧ q2.Ok n2 1 c2 ∧ k = n2 ∧ c2 = ints (((memb b u.streets.length).take k).map (fun i : Int => (u.streets.getD i.toNat default).id))) (fun ⟨k, q2, n2, c2⟩ => (memb b u.streets.length).length - k) (0, Sl.nil, 0, []) ⟨Nat.zero_le _, .none _, rfl, rfl⟩ ⟨rfl, rfl, trivial⟩ rfl ?_
            rintro ⟨k, q2, n2, c2⟩ ⟨hk2, ho2, rfl, rfl⟩
            refine SX.seq ?_
            refine SX.region ?_
            refine SXL.lss rfl rfl ?_
            refine SXL.nil ?_
            refine thenQ.normal ?_
            refine SX.seq ?_
            refine SX.condP rfl (fun c39 => ?_) (fun c39 => ?_)
            · refine SX.skip ?_
              refine thenQ.normal ?_
              refine SX.seq ?_
              refine SX.block ?_
              refine SX.seq ?_
              refine SX.region ?_
              refine SXL.indexSl 10 el_33 rfl rfl (by omega) rfl ho ?_; intro bx hbx
              refine SXL.loadSl1 10 (v := .int .i64 ((memb b u.streets.length).getD k 0)) sh_3 rfl hbx rfl ho (intsAtX (i := k) (by simp) (by omega)) ?_
              refine SXL.assign rfl ?_
              refine SXL.nil ?_
              refine thenQ.normal ?_
              have hmi := memb_in b u.streets.length ((memb b u.streets.length).getD k 0) (by rw [List.getD_eq_getElem?_getD, List.getElem?_eq_getElem (by omega)]; exact List.getElem_mem _)
              obtain ⟨by_, oy, hay, hmy⟩ := hs.street (i := ((memb b u.streets.length).getD k 0).toNat) (by omega)
              refine SX.region ?_
              refine SXL.move rfl ?_
              refine SXL.fieldAddr fp_25_1 rfl ?_
              refine SXL.load1o 0 sh_23 rfl rfl rfl ?_
              refine SXL.move rfl ?_
              refine SXL.indexR el_23 rfl rfl hay (by omega) ?_
              refine SXL.fieldAddr fp_73_0 rfl ?_
              refine SXL.load1 sh_3 rfl ((hmy _).sub (j := 0) (k := 1) rfl) ?_
              refine SXL.buildSlice et_33 zp_3 rfl rfl rfl rfl ?_; intro b13
              refine SXL.insN 13 ?_
              refine SXL.append 12 ap_33 rfl rfl ho2 rfl (.inr ⟨_, _, rfl, Mem.own (i := 13) rfl (takeAt_all _)⟩) rfl rfl ⟨by simp only [maxLen]; omega, by omega⟩ ?_; intro r_50 o_50
              refine SXL.assign rfl ?_
              refine SXL.nil ?_
              refine blockQ.normal ?_
              refine thenQ.normal ?_
              refine SX.region ?_
              refine SXL.add rfl rfl (by omega) ?_
              refine SXL.move rfl ?_
              refine SXL.nil ?_
              refine thenQ.normal ?_
              refine ⟨(k + 1, _, _, _), MeetsW.mk0 13 14 ⟨rfl, rfl, trivial⟩ ⟨rfl, rfl, rfl, rfl, rfl, rfl, trivial⟩ rfl rfl, ⟨by omega, o_50, rfl, by rw [take_snocI (show k < (memb b u.streets.length).length by omega), List.map_append, ints_app]; rfl⟩, (show (memb b u.streets.length).length - (k + 1) < (memb b u.streets.length).length - k by omega)⟩
            · refine SX.exit ?_
              refine thenQ.exit ?_
              refine thenQ.exit ?_
              refine blockQ.exit ?_
              refine thenQ.normal ?_
              obtain rfl : k = (memb b u.streets.length).length := by omega
              refine SX.region ?_
              refine SXL.load1o 3 sh_104 rfl rfl rfl ?_
              refine SXL.move rfl ?_
              refine SXL.buildSlice et_104 zp_33 rfl rfl rfl rfl ?_; intro b13
              refine SXL.insN 13 ?_
              refine SXL.append 4 ap_104 rfl rfl hqa rfl (.inr ⟨_, _, rfl, Mem.own (i := 13) rfl (takeAt_all _)⟩) rfl rfl ⟨by simp only [maxLen]; omega, by omega⟩ ?_; intro r_55 o_55
              refine SXL.store 3 sz_104 rfl rfl rfl rfl rfl rfl ?_
              refine SXL.nil ?_
              refine blockQ.normal ?_
              refine ⟨rfl, ?_⟩
              refine SXL.not rfl ?_
              refine SXL.nil ?_
              refine thenQ.normal ?_
              refine SX.condP rfl (fun c77 => ?_) (fun c77 => ?_)
              · exfalso; exact c77 trivial
              refine SX.skip ?_
              refine blockQ.normal ?_
              refine thenQ.normal ?_
              refine SX.region ?_
              refine SXL.add rfl rfl (by omega) ?_
              refine SXL.move rfl ?_
              refine SXL.nil ?_
              refine thenQ.normal ?_
              refine ⟨(b + 1, r_55, _, _, tr ++ [(q2, (memb b u.streets.length).length, ((memb b u.streets.length).take (memb b u.streets.length).length).map (fun i : Int => (u.streets.getD i.toNat default).id))], P ++ [q2.ent 3 (ints (((memb b u.streets.length).take (memb b u.streets.length).length).map (fun i : Int => (u.streets.getD i.toNat default).id)))]), MeetsW.mk1 8 14 4 _ _ ⟨rfl, trivial⟩ ⟨rfl, rfl, rfl, trivial⟩ rfl rfl rfl rfl, ?_, (show 2 ^ u.streets.length - (b + 1) < 2 ^ u.streets.length - b by omega)⟩
              rw [sumB_memb hNl] at c34
              have elk : LackP u (pad4 (waterL u week best)) (needs u best) b ↔ ¬(sumB b (needs u best) ≤ thrTo u b (pad4 (waterL u week best)) u.founts.length) := by unfold LackP thr; omega
              first
                | exact ⟨by omega, o_55, by rw [List.map_append, List.flatten_append]; rfl, by rw [List.map_append, htr, lkL, if_pos (elk.2 c34), idsB_map, List.take_length]; rfl, hok.add ho2, hP.add ho2⟩
                | exact ⟨by omega, hqa, rfl, by rw [htr, lkL, if_neg (fun h => elk.1 h c34)], hok, hP⟩
    · refine SX.exit ?_
      refine thenQ.exit ?_
      refine thenQ.exit ?_
      refine blockQ.exit ?_
      refine retQ.zeroN ?_
      refine ⟨7, rfl, ?_⟩
      refine blockQ.normal ?_
      refine thenQ.normal ?_
      refine SX.seq ?_
      refine SX.seq ?_
      have hbe : b = 2 ^ u.streets.length := by omega
      have hmn := rfO_min (u := u) (W := pad4 (waterL u week best)) (L := needs u best) hNl (fun k => by rw [pad4_at]; exact (water_in hv ht hw best k).1) b
      have hro : prO u week best = rfO u (pad4 (waterL u week best)) (needs u best) b := by rw [hbe]; exact (rfO_congr (pad4_at _) _).symm
      refine SX.region ?_
      refine SXL.load1o 3 sh_104 rfl rfl rfl ?_
      refine SXL.len is_104 rfl ?_
      refine SXL.eqlI rfl rfl ?_
      refine SXL.nil ?_
      refine thenQ.normal ?_
      refine SX.condP rfl (fun c58 => ?_) (fun c58 => ?_)
      · refine SX.seq ?_
        refine SX.region ?_
        refine SXL.assign rfl ?_
        refine SXL.assign rfl ?_
        refine SXL.nil ?_
        refine thenQ.normal ?_
        refine SX.ret ?_
        refine thenQ.ret ?_
        refine scopeQ.ret ?_
        refine retQ.unmark 6 rfl ?_
        refine retQ.selS (Sel.keepV 8 [] rfl rfl) ?_
        refine retQ.two (ResAt.tmp rfl) (ResAt.tmp rfl) ?_
        have h0 : tr = [] := List.eq_nil_of_length_eq_zero (by omega)
        have h1 : prO u week best = [] := by rw [hro]; exact hmn.1 (by rw [← htr, h0]; rfl)
        have h2 : prE u week best = 6 := by rw [prE, if_neg c23, if_pos h1]
        exact PrR.errs (by rw [prL, h2]; rfl) h2.symm
      · refine SX.skip ?_
        refine thenQ.normal ?_
        refine SX.seq ?_
        have hsm2 : ∀ x ∈ tr, x.2.2.length ≤ 1000 := fun x hx => by have h1 := lkL_mem u (pad4 (waterL u week best)) (needs u best) b x.2.2 (by rw [← htr]; exact List.mem_map.2 ⟨x, hx, rfl⟩); omega
        refine SX.region ?_
        refine SXL.load1o 3 sh_104 rfl rfl rfl ?_
        refine SXL.callP (fun v => ∃ j, j < tr.length ∧ v = (tr.getD j default).1.val (tr.getD j default).2.1 ∧ (tr.getD j default).2.2 = minL (tr.map (·.2.2)) (tr.length - 1)) fn_69 rfl (fun w hI => (show tr.length = na from hna.symm) ▸ firstLists tr qa.addr qa.cap (by omega) (by omega) hok hsm2 w (trAtOwn hI (hI.weaken (List.sublist_append_right [_, _, _, _, _, _, _, _] P)) (by rw [hna] at hqa; exact hqa) (i := 4) rfl hP)) ?_; rintro _ ⟨j, hjl, rfl, hj⟩
        refine SXL.assign rfl ?_
        refine SXL.assign rfl ?_
        refine SXL.nil ?_
        refine thenQ.normal ?_
        refine SX.ret ?_
        refine scopeQ.ret ?_
        refine retQ.unmark 6 rfl ?_
        refine retQ.selS (Sel.keepV 8 [] rfl rfl) ?_
        refine retQ.two (ResAt.tmp rfl) (ResAt.tmp rfl) ?_
        have h0 : tr ≠ [] := fun h => by rw [h] at hjl; simp at hjl
        obtain ⟨h3, h4⟩ := hmn.2 (by rw [← htr]; simpa using h0)
        rw [← htr, List.length_map, ← hj, ← hro] at h3
        have h2 : prE u week best = 0 := by rw [prE, if_neg c23, if_neg (by rw [hro]; exact h4)]
        have h5 : prL u week best = (tr.getD j default).2.2 := by rw [prL, if_pos h2, h3]
        have h6 := Ok.n (hok _ (tr_get hjl))
        rw [h5, h2]
        exact ⟨_, _, by rw [h6]; rfl, hP _ (tr_get hjl)⟩
end Go.Proofs.YtolcicaclflagaaDoor

/- The walks of functions. -/
namespace Go.Proofs.YtolcicaclflagaaDoor
open Go.X Go.S
theorem within_any (n lo hi : Int) (w : World) :
    CallsR Tryd.prog 101 [.int .i64 n, .int .i64 lo, .int .i64 hi] w (fun v _ => v = .bool (decide (Wi n lo hi))) := by
  refine CallsR.of_SX (n := 15) (rs := [.tmp 6]) Tryd.func101 rfl rfl rfl rfl ?_
  show SX _ _ _ ⟨[(0, .int .i64 n), (1, .int .i64 lo), (2, .int .i64 hi)], [], []⟩
  refine SX.seq ?_
  refine SX.region ?_
  refine SXL.assign rfl ?_
  refine SXL.nil ?_
  refine thenQ.normal ?_
  refine SX.seq ?_
  refine SX.region ?_
  refine SXL.move rfl ?_
  refine SXL.move rfl ?_
  refine SXL.geq rfl rfl ?_
  refine SXL.move rfl ?_
  apply SXL.andG 3
  case hl => exact rfl
  case hd => exact rfl
  case hg => exact rfl
  case ht =>
    intro g1
    refine SXL.move rfl ?_
    refine SXL.move rfl ?_
    refine SXL.leq rfl rfl ?_
    exact SXL.nil (segQ.mk (.skip rfl (.skip rfl (.skip rfl (.skip rfl (EnvSub.refl _))))) rfl rfl ⟨rfl, rfl⟩)
  case hf =>
    intro g1
    refine SXL.pass rfl rfl rfl ?_
    refine SXL.pass rfl rfl rfl ?_
    refine SXL.pass rfl rfl rfl ?_
    exact SXL.nil (segQ.mk (.skip rfl (.skip rfl (.skip rfl (.skip rfl (EnvSub.refl _))))) rfl rfl rfl)
  refine SXL.assign rfl ?_
  refine SXL.nil ?_
  refine thenQ.normal ?_
  refine SX.ret ?_
  refine retQ.one (ResAt.tmp rfl) ?_
  first | rfl | assumption
theorem spanned_any (a b lo hi : Int) (w : World) :
    CallsR Tryd.prog 102 [.agg ⟨[.int .i64 a, .int .i64 b]⟩, .int .i64 lo, .int .i64 hi] w (fun v _ => v = .bool (decide (Spn a b lo hi))) := by
  refine CallsR.of_SX (n := 20) (rs := [.tmp 6]) Tryd.func102 rfl rfl rfl rfl ?_
  show SX _ _ _ ⟨[(0, .agg ⟨[.int .i64 a, .int .i64 b]⟩), (1, .int .i64 lo), (2, .int .i64 hi)], [], []⟩
  refine SX.seq ?_
  refine SX.region ?_
  refine SXL.box rfl rfl ?_; intro b0
  refine SXL.assign rfl ?_
  refine SXL.nil ?_
  refine thenQ.normal ?_
  refine SX.seq ?_
  refine SX.region ?_
  refine SXL.fieldAddr fp_55_1 rfl ?_
  refine SXL.load1o 0 sh_3 rfl rfl rfl ?_
  refine SXL.move rfl ?_
  refine SXL.move rfl ?_
  refine SXL.call1 (.bool (decide (Wi b lo hi))) fn_101 rfl (fun w hI => within_any _ _ _ _) ?_
  refine SXL.move rfl ?_
  apply SXL.andG 6
  case hl => exact rfl
  case hd => exact rfl
  case hg => exact rfl
  case ht =>
    intro g1
    refine SXL.fieldAddr fp_55_0 rfl ?_
    refine SXL.load1o 0 sh_3 rfl rfl rfl ?_
    refine SXL.move rfl ?_
    refine SXL.fieldAddr fp_55_1 rfl ?_
    refine SXL.load1o 0 sh_3 rfl rfl rfl ?_
    refine SXL.call1 (.bool (decide (Wi a lo b))) fn_101 rfl (fun w hI => within_any _ _ _ _) ?_
    exact SXL.nil (segQ.mk (.skip rfl (.skip rfl (.skip rfl (.skip rfl (.skip rfl (.skip rfl (.skip rfl (EnvSub.refl _)))))))) rfl rfl ⟨rfl, rfl⟩)
  case hf =>
    intro g1
    refine SXL.pass rfl rfl rfl ?_
    refine SXL.pass rfl rfl rfl ?_
    refine SXL.pass rfl rfl rfl ?_
    refine SXL.pass rfl rfl rfl ?_
    refine SXL.pass rfl rfl rfl ?_
    refine SXL.pass rfl rfl rfl ?_
    exact SXL.nil (segQ.mk (.skip rfl (.skip rfl (.skip rfl (.skip rfl (.skip rfl (.skip rfl (.skip rfl (EnvSub.refl _)))))))) rfl rfl rfl)
  refine SXL.assign rfl ?_
  refine SXL.nil ?_
  refine thenQ.normal ?_
  refine SX.ret ?_
  refine retQ.one (ResAt.tmp rfl) ?_
  first | rfl | assumption
theorem reading_any (x : Rd) (weeks : Int) (hw : -9223372036854775807 ≤ weeks) (hw2 : weeks ≤ 9223372036854775807) (w : World) :
    CallsR Tryd.prog 103 [.agg ⟨x.cells⟩, .int .i64 weeks] w (fun v _ => v = .bool (decide (RdP x weeks))) := by
  refine CallsR.of_SX (n := 31) (rs := [.tmp 4]) Tryd.func103 rfl rfl rfl rfl ?_
  show SX _ _ _ ⟨[(0, .agg ⟨x.cells⟩), (1, .int .i64 weeks)], [], []⟩
  refine SX.seq ?_
  refine SX.region ?_
  refine SXL.box rfl rfl ?_; intro b0
  refine SXL.assign rfl ?_
  refine SXL.nil ?_
  refine thenQ.normal ?_
  refine SX.seq ?_
  refine SX.region ?_
  refine SXL.fieldAddr fp_131_0 rfl ?_
  refine SXL.load1o 0 sh_3 rfl rfl rfl ?_
  refine SXL.call1 (.bool (decide (Wi x.num 1 9999))) fn_101 rfl (fun w hI => within_any _ _ _ _) ?_
  refine SXL.move rfl ?_
  apply SXL.andG 5
  case hl => exact rfl
  case hd => exact rfl
  case hg => exact rfl
  case ht =>
    intro g1
    refine SXL.fieldAddr fp_131_1 rfl ?_
    refine SXL.load1o 0 sh_3 rfl rfl rfl ?_
    refine SXL.move rfl ?_
    refine SXL.sub rfl rfl (by omega) ?_
    refine SXL.call1 (.bool (decide (Wi x.wk 0 (weeks - 1)))) fn_101 rfl (fun w hI => within_any _ _ _ _) ?_
    exact SXL.nil (segQ.mk (.skip rfl (.skip rfl (.skip rfl (.skip rfl (.skip rfl (.skip rfl (EnvSub.refl _))))))) rfl rfl ⟨rfl, rfl⟩)
  case hf =>
    intro g1
    refine SXL.pass rfl rfl rfl ?_
    refine SXL.pass rfl rfl rfl ?_
    refine SXL.pass rfl rfl rfl ?_
    refine SXL.pass rfl rfl rfl ?_
    refine SXL.pass rfl rfl rfl ?_
    exact SXL.nil (segQ.mk (.skip rfl (.skip rfl (.skip rfl (.skip rfl (.skip rfl (.skip rfl (EnvSub.refl _))))))) rfl rfl rfl)
  refine SXL.move rfl ?_
  apply SXL.andG 3
  case hl => exact rfl
  case hd => exact rfl
  case hg => exact rfl
  case ht =>
    intro g2
    refine SXL.fieldAddr fp_131_2 rfl ?_
    refine SXL.load1o 0 sh_3 rfl rfl rfl ?_
    refine SXL.call1 (.bool (decide (Wi x.bu 1 40))) fn_101 rfl (fun w hI => within_any _ _ _ _) ?_
    exact SXL.nil (segQ.mk (.skip rfl (.skip rfl (.skip rfl (.skip rfl (EnvSub.refl _))))) rfl rfl ⟨rfl, rfl⟩)
  case hf =>
    intro g2
    refine SXL.pass rfl rfl rfl ?_
    refine SXL.pass rfl rfl rfl ?_
    refine SXL.pass rfl rfl rfl ?_
    exact SXL.nil (segQ.mk (.skip rfl (.skip rfl (.skip rfl (.skip rfl (EnvSub.refl _))))) rfl rfl rfl)
  refine SXL.move rfl ?_
  apply SXL.andG 3
  case hl => exact rfl
  case hd => exact rfl
  case hg => exact rfl
  case ht =>
    intro g3
    refine SXL.fieldAddr fp_131_3 rfl ?_
    refine SXL.loadNo 0 sh_55 rfl rfl rfl ?_
    refine SXL.call1 (.bool (decide (Spn x.s0 x.s1 0 99))) fn_102 rfl (fun w hI => spanned_any _ _ _ _ _) ?_
    exact SXL.nil (segQ.mk (.skip rfl (.skip rfl (.skip rfl (.skip rfl (EnvSub.refl _))))) rfl rfl ⟨rfl, rfl⟩)
  case hf =>
    intro g3
    refine SXL.pass rfl rfl rfl ?_
    refine SXL.pass rfl rfl rfl ?_
    refine SXL.pass rfl rfl rfl ?_
    exact SXL.nil (segQ.mk (.skip rfl (.skip rfl (.skip rfl (.skip rfl (EnvSub.refl _))))) rfl rfl rfl)
  refine SXL.move rfl ?_
  apply SXL.andG 4
  case hl => exact rfl
  case hd => exact rfl
  case hg => exact rfl
  case ht =>
    intro g4
    refine SXL.fieldAddr fp_131_3 rfl ?_
    refine SXL.fieldAddr fp_55_1 rfl ?_
    refine SXL.load1o 0 sh_3 rfl rfl rfl ?_
    refine SXL.gtr rfl rfl ?_
    exact SXL.nil (segQ.mk (.skip rfl (.skip rfl (.skip rfl (.skip rfl (.skip rfl (EnvSub.refl _)))))) rfl rfl ⟨rfl, rfl⟩)
  case hf =>
    intro g4
    refine SXL.pass rfl rfl rfl ?_
    refine SXL.pass rfl rfl rfl ?_
    refine SXL.pass rfl rfl rfl ?_
    refine SXL.pass rfl rfl rfl ?_
    exact SXL.nil (segQ.mk (.skip rfl (.skip rfl (.skip rfl (.skip rfl (.skip rfl (EnvSub.refl _)))))) rfl rfl rfl)
  refine SXL.assign rfl ?_
  refine SXL.nil ?_
  refine thenQ.normal ?_
  refine SX.ret ?_
  refine retQ.one (ResAt.tmp rfl) ?_
  first | rfl | assumption
theorem right_any (s : Sp) (bo ro : Option Addr) (bc rc : Nat) (x : Rd) (n : Int) (h1 : Spn s.a0 s.a1 1 600) (h2 : Spn x.s0 x.s1 0 99) (h3 : Wi x.bu 1 40) (h4 : Wi n 0 100) (w : World) :
    CallsR Tryd.prog 117 [.agg ⟨[.int .i64 s.weeks, .int .i64 s.most, .int .i64 s.fall, .int .i64 s.a0, .int .i64 s.a1, .int .i64 s.w0, .int .i64 s.w1, (.slice bo s.book.length bc), (.slice ro s.reads.length rc)]⟩, .agg ⟨x.cells⟩, .int .i64 n] w (fun v _ => v = .bool (decide (Right s x n))) := by
  have m1 := mul3 (a := x.s0) (b := s.a0) (c := n) (A := 99) (B := 600) (D := 100) (by omega) (by omega) (by omega) (by omega) (by omega) (by omega)
  have m2 := mul3 (a := x.s1) (b := s.a1) (c := n) (A := 99) (B := 600) (D := 100) (by omega) (by omega) (by omega) (by omega) (by omega) (by omega)
  refine CallsR.of_SX (n := 39) (rs := [.tmp 6]) Tryd.func117 rfl rfl rfl rfl ?_
  show SX _ _ _ ⟨[(0, .agg ⟨[.int .i64 s.weeks, .int .i64 s.most, .int .i64 s.fall, .int .i64 s.a0, .int .i64 s.a1, .int .i64 s.w0, .int .i64 s.w1, (.slice bo s.book.length bc), (.slice ro s.reads.length rc)]⟩), (1, .agg ⟨x.cells⟩), (2, .int .i64 n)], [], []⟩
  refine SX.seq ?_
  refine SX.region ?_
  refine SXL.box rfl rfl ?_; intro b0
  refine SXL.box rfl rfl ?_; intro b1
  refine SXL.assign rfl ?_
  refine SXL.nil ?_
  refine thenQ.normal ?_
  refine SX.seq ?_
  refine SX.region ?_
  refine SXL.move rfl ?_
  refine SXL.gtr rfl rfl ?_
  refine SXL.move rfl ?_
  apply SXL.andG 13
  case hl => exact rfl
  case hd => exact rfl
  case hg => exact rfl
  case ht =>
    intro g1
    refine SXL.fieldAddr fp_131_3 rfl ?_
    refine SXL.fieldAddr fp_55_0 rfl ?_
    refine SXL.load1o 1 sh_3 rfl rfl rfl ?_
    refine SXL.fieldAddr fp_68_3 rfl ?_
    refine SXL.fieldAddr fp_55_0 rfl ?_
    refine SXL.load1o 0 sh_3 rfl rfl rfl ?_
    refine SXL.mul rfl rfl (by omega) ?_
    refine SXL.move rfl ?_
    refine SXL.mul rfl rfl (by omega) ?_
    refine SXL.fieldAddr fp_131_2 rfl ?_
    refine SXL.load1o 1 sh_3 rfl rfl rfl ?_
    refine SXL.mul rfl rfl (by omega) ?_
    refine SXL.leq rfl rfl ?_
    exact SXL.nil (segQ.mk (.skip rfl (.skip rfl (.skip rfl (.skip rfl (.skip rfl (.skip rfl (.skip rfl (.skip rfl (.skip rfl (.skip rfl (.skip rfl (.skip rfl (.skip rfl (.skip rfl (EnvSub.refl _))))))))))))))) rfl rfl ⟨rfl, rfl⟩)
  case hf =>
    intro g1
    refine SXL.pass rfl rfl rfl ?_
    refine SXL.pass rfl rfl rfl ?_
    refine SXL.pass rfl rfl rfl ?_
    refine SXL.pass rfl rfl rfl ?_
    refine SXL.pass rfl rfl rfl ?_
    refine SXL.pass rfl rfl rfl ?_
    refine SXL.pass rfl rfl rfl ?_
    refine SXL.pass rfl rfl rfl ?_
    refine SXL.pass rfl rfl rfl ?_
    refine SXL.pass rfl rfl rfl ?_
    refine SXL.pass rfl rfl rfl ?_
    refine SXL.pass rfl rfl rfl ?_
    refine SXL.pass rfl rfl rfl ?_
    exact SXL.nil (segQ.mk (.skip rfl (.skip rfl (.skip rfl (.skip rfl (.skip rfl (.skip rfl (.skip rfl (.skip rfl (.skip rfl (.skip rfl (.skip rfl (.skip rfl (.skip rfl (.skip rfl (EnvSub.refl _))))))))))))))) rfl rfl rfl)
  refine SXL.move rfl ?_
  apply SXL.andG 13
  case hl => exact rfl
  case hd => exact rfl
  case hg => exact rfl
  case ht =>
    intro g2
    refine SXL.fieldAddr fp_131_2 rfl ?_
    refine SXL.load1o 1 sh_3 rfl rfl rfl ?_
    refine SXL.mul rfl rfl (by omega) ?_
    refine SXL.fieldAddr fp_131_3 rfl ?_
    refine SXL.fieldAddr fp_55_1 rfl ?_
    refine SXL.load1o 1 sh_3 rfl rfl rfl ?_
    refine SXL.fieldAddr fp_68_3 rfl ?_
    refine SXL.fieldAddr fp_55_1 rfl ?_
    refine SXL.load1o 0 sh_3 rfl rfl rfl ?_
    refine SXL.mul rfl rfl (by omega) ?_
    refine SXL.move rfl ?_
    refine SXL.mul rfl rfl (by omega) ?_
    refine SXL.leq rfl rfl ?_
    exact SXL.nil (segQ.mk (.skip rfl (.skip rfl (.skip rfl (.skip rfl (.skip rfl (.skip rfl (.skip rfl (.skip rfl (.skip rfl (.skip rfl (.skip rfl (.skip rfl (.skip rfl (.skip rfl (EnvSub.refl _))))))))))))))) rfl rfl ⟨rfl, rfl⟩)
  case hf =>
    intro g2
    refine SXL.pass rfl rfl rfl ?_
    refine SXL.pass rfl rfl rfl ?_
    refine SXL.pass rfl rfl rfl ?_
    refine SXL.pass rfl rfl rfl ?_
    refine SXL.pass rfl rfl rfl ?_
    refine SXL.pass rfl rfl rfl ?_
    refine SXL.pass rfl rfl rfl ?_
    refine SXL.pass rfl rfl rfl ?_
    refine SXL.pass rfl rfl rfl ?_
    refine SXL.pass rfl rfl rfl ?_
    refine SXL.pass rfl rfl rfl ?_
    refine SXL.pass rfl rfl rfl ?_
    refine SXL.pass rfl rfl rfl ?_
    exact SXL.nil (segQ.mk (.skip rfl (.skip rfl (.skip rfl (.skip rfl (.skip rfl (.skip rfl (.skip rfl (.skip rfl (.skip rfl (.skip rfl (.skip rfl (.skip rfl (.skip rfl (.skip rfl (EnvSub.refl _))))))))))))))) rfl rfl rfl)
  refine SXL.assign rfl ?_
  refine SXL.nil ?_
  refine thenQ.normal ?_
  refine SX.ret ?_
  refine retQ.one (ResAt.tmp rfl) ?_
  first | rfl | assumption
theorem spring_any (s : Sp) (bo ro : Option Addr) (bc rc : Nat) (w : World) (hs : SpAt w s bo ro) :
    CallsR Tryd.prog 87 [.agg ⟨[.int .i64 s.weeks, .int .i64 s.most, .int .i64 s.fall, .int .i64 s.a0, .int .i64 s.a1, .int .i64 s.w0, .int .i64 s.w1, (.slice bo s.book.length bc), (.slice ro s.reads.length rc)]⟩] w (fun v _ => v = .bool (decide (SpP s))) := by
  refine CallsR.of_SX (n := 104) (rs := [.tmp 2]) Tryd.func87 rfl rfl rfl rfl ?_
  show SX _ _ _ ⟨[(0, .agg ⟨[.int .i64 s.weeks, .int .i64 s.most, .int .i64 s.fall, .int .i64 s.a0, .int .i64 s.a1, .int .i64 s.w0, .int .i64 s.w1, (.slice bo s.book.length bc), (.slice ro s.reads.length rc)]⟩)], [], []⟩
  refine SX.seq ?_
  refine SX.region ?_
  refine SXL.box rfl rfl ?_; intro b0
  refine SXL.assign rfl ?_
  refine SXL.nil ?_
  refine thenQ.normal ?_
  refine SX.seq ?_
  refine SX.seq ?_
  refine SX.region ?_
  refine SXL.fieldAddr fp_68_0 rfl ?_
  refine SXL.load1o 0 sh_3 rfl rfl rfl ?_
  refine SXL.call1 (.bool (decide (Wi s.weeks 1 10))) fn_101 rfl (fun w hI => within_any _ _ _ _) ?_
  refine SXL.not rfl ?_
  refine SXL.move rfl ?_
  apply SXL.orG 4
  case hl => exact rfl
  case hd => exact rfl
  case hg => exact rfl
  case ht =>
    intro g1
    refine SXL.pass rfl rfl rfl ?_
    refine SXL.pass rfl rfl rfl ?_
    refine SXL.pass rfl rfl rfl ?_
    refine SXL.pass rfl rfl rfl ?_
    exact SXL.nil (segQ.mk (.skip rfl (.skip rfl (.skip rfl (.skip rfl (.skip rfl (EnvSub.refl _)))))) rfl rfl rfl)
  case hf =>
    intro g1
    refine SXL.fieldAddr fp_68_1 rfl ?_
    refine SXL.load1o 0 sh_3 rfl rfl rfl ?_
    refine SXL.call1 (.bool (decide (Wi s.most 0 100))) fn_101 rfl (fun w hI => within_any _ _ _ _) ?_
    refine SXL.not rfl ?_
    exact SXL.nil (segQ.mk (.skip rfl (.skip rfl (.skip rfl (.skip rfl (.skip rfl (EnvSub.refl _)))))) rfl rfl ⟨rfl, rfl⟩)
  refine SXL.move rfl ?_
  apply SXL.orG 4
  case hl => exact rfl
  case hd => exact rfl
  case hg => exact rfl
  case ht =>
    intro g2
    refine SXL.pass rfl rfl rfl ?_
    refine SXL.pass rfl rfl rfl ?_
    refine SXL.pass rfl rfl rfl ?_
    refine SXL.pass rfl rfl rfl ?_
    exact SXL.nil (segQ.mk (.skip rfl (.skip rfl (.skip rfl (.skip rfl (.skip rfl (EnvSub.refl _)))))) rfl rfl rfl)
  case hf =>
    intro g2
    refine SXL.fieldAddr fp_68_2 rfl ?_
    refine SXL.load1o 0 sh_3 rfl rfl rfl ?_
    refine SXL.call1 (.bool (decide (Wi s.fall 0 100))) fn_101 rfl (fun w hI => within_any _ _ _ _) ?_
    refine SXL.not rfl ?_
    exact SXL.nil (segQ.mk (.skip rfl (.skip rfl (.skip rfl (.skip rfl (.skip rfl (EnvSub.refl _)))))) rfl rfl ⟨rfl, rfl⟩)
  refine SXL.move rfl ?_
  apply SXL.orG 4
  case hl => exact rfl
  case hd => exact rfl
  case hg => exact rfl
  case ht =>
    intro g3
    refine SXL.pass rfl rfl rfl ?_
    refine SXL.pass rfl rfl rfl ?_
    refine SXL.pass rfl rfl rfl ?_
    refine SXL.pass rfl rfl rfl ?_
    exact SXL.nil (segQ.mk (.skip rfl (.skip rfl (.skip rfl (.skip rfl (.skip rfl (EnvSub.refl _)))))) rfl rfl rfl)
  case hf =>
    intro g3
    refine SXL.fieldAddr fp_68_3 rfl ?_
    refine SXL.loadNo 0 sh_55 rfl rfl rfl ?_
    refine SXL.call1 (.bool (decide (Spn s.a0 s.a1 1 600))) fn_102 rfl (fun w hI => spanned_any _ _ _ _ _) ?_
    refine SXL.not rfl ?_
    exact SXL.nil (segQ.mk (.skip rfl (.skip rfl (.skip rfl (.skip rfl (.skip rfl (EnvSub.refl _)))))) rfl rfl ⟨rfl, rfl⟩)
  refine SXL.move rfl ?_
  apply SXL.orG 4
  case hl => exact rfl
  case hd => exact rfl
  case hg => exact rfl
  case ht =>
    intro g4
    refine SXL.pass rfl rfl rfl ?_
    refine SXL.pass rfl rfl rfl ?_
    refine SXL.pass rfl rfl rfl ?_
    refine SXL.pass rfl rfl rfl ?_
    exact SXL.nil (segQ.mk (.skip rfl (.skip rfl (.skip rfl (.skip rfl (.skip rfl (EnvSub.refl _)))))) rfl rfl rfl)
  case hf =>
    intro g4
    refine SXL.fieldAddr fp_68_4 rfl ?_
    refine SXL.loadNo 0 sh_55 rfl rfl rfl ?_
    refine SXL.call1 (.bool (decide (Spn s.w0 s.w1 0 20))) fn_102 rfl (fun w hI => spanned_any _ _ _ _ _) ?_
    refine SXL.not rfl ?_
    exact SXL.nil (segQ.mk (.skip rfl (.skip rfl (.skip rfl (.skip rfl (.skip rfl (EnvSub.refl _)))))) rfl rfl ⟨rfl, rfl⟩)
  refine SXL.move rfl ?_
  apply SXL.orG 4
  case hl => exact rfl
  case hd => exact rfl
  case hg => exact rfl
  case ht =>
    intro g5
    refine SXL.pass rfl rfl rfl ?_
    refine SXL.pass rfl rfl rfl ?_
    refine SXL.pass rfl rfl rfl ?_
    refine SXL.pass rfl rfl rfl ?_
    exact SXL.nil (segQ.mk (.skip rfl (.skip rfl (.skip rfl (.skip rfl (.skip rfl (EnvSub.refl _)))))) rfl rfl rfl)
  case hf =>
    intro g5
    refine SXL.fieldAddr fp_68_5 rfl ?_
    refine SXL.load1o 0 sh_65 rfl rfl rfl ?_
    refine SXL.len is_65 rfl ?_
    refine SXL.gtr rfl rfl ?_
    exact SXL.nil (segQ.mk (.skip rfl (.skip rfl (.skip rfl (.skip rfl (.skip rfl (EnvSub.refl _)))))) rfl rfl ⟨rfl, rfl⟩)
  refine SXL.move rfl ?_
  apply SXL.orG 4
  case hl => exact rfl
  case hd => exact rfl
  case hg => exact rfl
  case ht =>
    intro c0
    refine SXL.pass rfl rfl rfl ?_
    refine SXL.pass rfl rfl rfl ?_
    refine SXL.pass rfl rfl rfl ?_
    refine SXL.pass rfl rfl rfl ?_
    exact SXL.nil (segQ.mk (.skip rfl (.skip rfl (.skip rfl (.skip rfl (.skip rfl (EnvSub.refl _)))))) rfl rfl rfl)
  case hf =>
    intro c0
    refine SXL.fieldAddr fp_68_6 rfl ?_
    refine SXL.load1o 0 sh_66 rfl rfl rfl ?_
    refine SXL.len is_66 rfl ?_
    refine SXL.gtr rfl rfl ?_
    exact SXL.nil (segQ.mk (.skip rfl (.skip rfl (.skip rfl (.skip rfl (.skip rfl (EnvSub.refl _)))))) rfl rfl ⟨rfl, rfl⟩)
  refine SXL.nil ?_
  refine thenQ.normal ?_
  refine SX.condP rfl (fun c0 => ?_) (fun c0 => ?_)
  · refine SX.seq ?_
    refine SX.region ?_
    refine SXL.assign rfl ?_
    refine SXL.nil ?_
    refine thenQ.normal ?_
    refine SX.ret ?_
    refine thenQ.ret ?_
    refine retQ.one (ResAt.tmp rfl) ?_
    exact congrArg Value.bool (decide_eq_false (by intro h; have h1 := h.1; unfold HeadP at h1; omega)).symm
  · refine SX.skip ?_
    refine thenQ.normal ?_
    refine SX.seq ?_
    refine SX.seq ?_
    refine SX.region ?_
    refine SXL.fieldAddr fp_68_5 rfl ?_
    refine SXL.load1o 0 sh_65 rfl rfl rfl ?_
    refine SXL.len is_65 rfl ?_
    refine SXL.move rfl ?_
    refine SXL.nil ?_
    refine thenQ.normal ?_
    refine SX.block ?_
    refine SX.loopG (α := Nat) [1, 2, 48, 49] rfl (fun k => [(50, .int .i64 (k : Int))]) (fun k => []) (fun k => k ≤ s.book.length ∧ ∀ i, i < k → (h : i < s.book.length) → LnP s.book[i] s.weeks) (fun k => s.book.length - k) 0 ⟨Nat.zero_le _, fun _ h => absurd h (Nat.not_lt_zero _)⟩ ⟨rfl, trivial⟩ rfl ?_
    rintro k ⟨hkl, hall⟩
    refine SX.seq ?_
    refine SX.region ?_
    refine SXL.lss rfl rfl ?_
    refine SXL.nil ?_
    refine thenQ.normal ?_
    refine SX.seq ?_
    refine SX.condP rfl (fun c1 => ?_) (fun c1 => ?_)
    · refine SX.skip ?_
      refine thenQ.normal ?_
      refine SX.seq ?_
      refine SX.block ?_
      refine SX.seq ?_
      have hk : k < s.book.length := by omega
      obtain ⟨b, o, ha, hm⟩ := hs.line hk
      refine SX.region ?_
      refine SXL.indexR el_65 rfl rfl ha (by omega) ?_
      refine SXL.loadN sh_129 rfl (hm _) rfl ?_
      refine SXL.alloc zp_129 ?_; intro b1
      refine SXL.store 1 sz_129 rfl rfl rfl rfl rfl rfl ?_
      refine SXL.nil ?_
      refine thenQ.normal ?_
      refine SX.seq ?_
      refine SX.region ?_
      refine SXL.fieldAddr fp_129_0 rfl ?_
      refine SXL.loadNo 1 sh_55 rfl rfl rfl ?_
      refine SXL.call1 (.bool (decide (Spn s.book[k].r0 s.book[k].r1 0 20))) fn_102 rfl (fun w hI => spanned_any _ _ _ _ _) ?_
      refine SXL.not rfl ?_
      refine SXL.move rfl ?_
      apply SXL.orG 7
      case hl => exact rfl
      case hd => exact rfl
      case hg => exact rfl
      case ht =>
        intro g9
        refine SXL.pass rfl rfl rfl ?_
        refine SXL.pass rfl rfl rfl ?_
        refine SXL.pass rfl rfl rfl ?_
        refine SXL.pass rfl rfl rfl ?_
        refine SXL.pass rfl rfl rfl ?_
        refine SXL.pass rfl rfl rfl ?_
        refine SXL.pass rfl rfl rfl ?_
        exact SXL.nil (segQ.mk (.skip rfl (.skip rfl (.skip rfl (.skip rfl (.skip rfl (.skip rfl (.skip rfl (.skip rfl (EnvSub.refl _))))))))) rfl rfl rfl)
      case hf =>
        intro g9
        refine SXL.fieldAddr fp_129_1 rfl ?_
        refine SXL.load1o 1 sh_3 rfl rfl rfl ?_
        refine SXL.fieldAddr fp_68_0 rfl ?_
        refine SXL.load1o 0 sh_3 rfl rfl rfl ?_
        refine SXL.sub rfl rfl (by omega) ?_
        refine SXL.call1 (.bool (decide (Wi s.book[k].wk 0 (s.weeks - 1)))) fn_101 rfl (fun w hI => within_any _ _ _ _) ?_
        refine SXL.not rfl ?_
        exact SXL.nil (segQ.mk (.skip rfl (.skip rfl (.skip rfl (.skip rfl (.skip rfl (.skip rfl (.skip rfl (.skip rfl (EnvSub.refl _))))))))) rfl rfl ⟨rfl, rfl⟩)
      refine SXL.move rfl ?_
      apply SXL.orG 4
      case hl => exact rfl
      case hd => exact rfl
      case hg => exact rfl
      case ht =>
        intro c2
        refine SXL.pass rfl rfl rfl ?_
        refine SXL.pass rfl rfl rfl ?_
        refine SXL.pass rfl rfl rfl ?_
        refine SXL.pass rfl rfl rfl ?_
        exact SXL.nil (segQ.mk (.skip rfl (.skip rfl (.skip rfl (.skip rfl (.skip rfl (EnvSub.refl _)))))) rfl rfl rfl)
      case hf =>
        intro c2
        refine SXL.fieldAddr fp_129_2 rfl ?_
        refine SXL.loadNo 1 sh_55 rfl rfl rfl ?_
        refine SXL.call1 (.bool (decide (Spn s.book[k].g0 s.book[k].g1 0 100))) fn_102 rfl (fun w hI => spanned_any _ _ _ _ _) ?_
        refine SXL.not rfl ?_
        exact SXL.nil (segQ.mk (.skip rfl (.skip rfl (.skip rfl (.skip rfl (.skip rfl (EnvSub.refl _)))))) rfl rfl ⟨rfl, rfl⟩)
      refine SXL.nil ?_
      refine thenQ.normal ?_
      refine SX.condP rfl (fun c2 => ?_) (fun c2 => ?_)
      · refine SX.seq ?_
        refine SX.region ?_
        refine SXL.assign rfl ?_
        refine SXL.nil ?_
        refine thenQ.normal ?_
        refine SX.ret ?_
        refine blockQ.ret ?_
        refine thenQ.ret ?_
        refine thenQ.ret ?_
        refine blockQ.ret ?_
        refine thenQ.ret ?_
        refine retQ.one (ResAt.tmp rfl) ?_
        exact congrArg Value.bool (decide_eq_false (by intro h; have h1 := h.2.1 k hk; omega)).symm
      · refine SX.skip ?_
        refine blockQ.normal ?_
        refine thenQ.normal ?_
        refine SX.region ?_
        refine SXL.add rfl rfl (by omega) ?_
        refine SXL.move rfl ?_
        refine SXL.nil ?_
        refine thenQ.normal ?_
        refine ⟨k + 1, Meets.mk _ ⟨rfl, trivial⟩ ⟨rfl, rfl, rfl, rfl, trivial⟩ rfl, ?_, by omega⟩
        refine ⟨by omega, fun i hi h => ?_⟩
        by_cases hik : i = k
        · subst hik; omega
        · exact hall i (by omega) h
    · refine SX.exit ?_
      refine thenQ.exit ?_
      refine thenQ.exit ?_
      refine blockQ.exit ?_
      refine thenQ.normal ?_
      refine SX.seq ?_
      refine SX.seq ?_
      refine SX.region ?_
      refine SXL.fieldAddr fp_68_6 rfl ?_
      refine SXL.load1o 0 sh_66 rfl rfl rfl ?_
      refine SXL.len is_66 rfl ?_
      refine SXL.move rfl ?_
      refine SXL.nil ?_
      refine thenQ.normal ?_
      refine SX.block ?_
      refine SX.loopG (α := Nat) [1, 2, 75, 76] rfl (fun k => [(77, .int .i64 (k : Int))]) (fun k => []) (fun k => k ≤ s.reads.length ∧ ∀ i, i < k → (h : i < s.reads.length) → RdP s.reads[i] s.weeks ∧ (0 < i → (s.reads.getD (i - 1) default).num < s.reads[i].num)) (fun k => s.reads.length - k) 0 ⟨Nat.zero_le _, fun _ h => absurd h (Nat.not_lt_zero _)⟩ ⟨rfl, trivial⟩ rfl ?_
      rintro k ⟨hkl2, hall2⟩
      refine SX.seq ?_
      refine SX.region ?_
      refine SXL.lss rfl rfl ?_
      refine SXL.nil ?_
      refine thenQ.normal ?_
      refine SX.seq ?_
      refine SX.condP rfl (fun c3 => ?_) (fun c3 => ?_)
      · refine SX.skip ?_
        refine thenQ.normal ?_
        refine SX.seq ?_
        refine SX.block ?_
        refine SX.seq ?_
        have hk : k < s.reads.length := by omega
        obtain ⟨b, o, ha, hm⟩ := hs.read hk
        refine SX.region ?_
        refine SXL.move rfl ?_
        refine SXL.indexR el_66 rfl rfl ha (by omega) ?_
        refine SXL.loadN sh_131 rfl (hm _) rfl ?_
        refine SXL.alloc zp_131 ?_; intro b1
        refine SXL.assign rfl ?_
        refine SXL.store 1 sz_131 rfl rfl rfl rfl rfl rfl ?_
        refine SXL.nil ?_
        refine thenQ.normal ?_
        refine SX.seq ?_
        refine SX.draw 21 (by kernel_rfl) (by kernel_rfl) {} ?_
        refine SXA.take 0 21 rfl (by kernel_rfl) rfl ?_
        refine SXL.loadNo 1 sh_131 rfl rfl rfl ?_
        refine SXL.fieldAddr fp_68_0 rfl ?_
        refine SXL.load1o 0 sh_3 rfl rfl rfl ?_
        refine SXL.call1 (.bool (decide (RdP s.reads[k] s.weeks))) fn_103 rfl (fun w hI => reading_any _ _ (by omega) (by omega) _) ?_
        refine SXL.not rfl ?_
        refine SXL.move rfl ?_
        apply SXL.orG 14
        case hl => exact rfl
        case hd => exact rfl
        case hg => exact rfl
        case ht =>
          intro c4
          refine SXL.pass rfl rfl rfl ?_
          refine SXL.pass rfl rfl rfl ?_
          refine SXL.pass rfl rfl rfl ?_
          refine SXL.pass rfl rfl rfl ?_
          refine SXL.pass rfl rfl rfl ?_
          refine SXL.pass rfl rfl rfl ?_
          refine SXL.pass rfl rfl rfl ?_
          refine SXL.pass rfl rfl rfl ?_
          refine SXL.pass rfl rfl rfl ?_
          refine SXL.pass rfl rfl rfl ?_
          refine SXL.pass rfl rfl rfl ?_
          refine SXL.pass rfl rfl rfl ?_
          refine SXL.pass rfl rfl rfl ?_
          refine SXL.pass rfl rfl rfl ?_
          exact SXL.nil (segQ.mk (.skip rfl (.skip rfl (.skip rfl (.skip rfl (.skip rfl (.skip rfl (.skip rfl (.skip rfl (.skip rfl (.skip rfl (.skip rfl (.skip rfl (.skip rfl (.skip rfl (.skip rfl (EnvSub.refl _)))))))))))))))) rfl rfl rfl)
        case hf =>
          intro c4
          refine SXL.move rfl ?_
          refine SXL.gtr rfl rfl ?_
          refine SXL.move rfl ?_
          apply SXL.andG 10
          case hl => exact rfl
          case hd => exact rfl
          case hg => exact rfl
          case ht =>
            intro g14
            obtain ⟨b2, o2, ha2, hm2⟩ := hs.readI (i := (k : Int) - 1) (by omega) (by omega)
            refine SXL.fieldAddr fp_68_6 rfl ?_
            refine SXL.load1o 0 sh_66 rfl rfl rfl ?_
            refine SXL.move rfl ?_
            refine SXL.sub rfl rfl (by omega) ?_
            refine SXL.indexR el_66 rfl rfl ha2 (by omega) ?_
            refine SXL.fieldAddr fp_131_0 rfl ?_
            refine SXL.load1 sh_3 rfl ((hm2 _).sub (j := 0) (k := 1) rfl) ?_
            refine SXL.fieldAddr fp_131_0 rfl ?_
            refine SXL.load1o 1 sh_3 rfl rfl rfl ?_
            refine SXL.geq rfl rfl ?_
            exact SXL.nil (segQ.mk (.skip rfl (.skip rfl (.skip rfl (.skip rfl (.skip rfl (.skip rfl (.skip rfl (.skip rfl (.skip rfl (.skip rfl (.skip rfl (EnvSub.refl _)))))))))))) rfl rfl ⟨rfl, rfl⟩)
          case hf =>
            intro g14
            refine SXL.pass rfl rfl rfl ?_
            refine SXL.pass rfl rfl rfl ?_
            refine SXL.pass rfl rfl rfl ?_
            refine SXL.pass rfl rfl rfl ?_
            refine SXL.pass rfl rfl rfl ?_
            refine SXL.pass rfl rfl rfl ?_
            refine SXL.pass rfl rfl rfl ?_
            refine SXL.pass rfl rfl rfl ?_
            refine SXL.pass rfl rfl rfl ?_
            refine SXL.pass rfl rfl rfl ?_
            exact SXL.nil (segQ.mk (.skip rfl (.skip rfl (.skip rfl (.skip rfl (.skip rfl (.skip rfl (.skip rfl (.skip rfl (.skip rfl (.skip rfl (.skip rfl (EnvSub.refl _)))))))))))) rfl rfl rfl)
          exact SXL.nil (segQ.mk (.skip rfl (.skip rfl (.skip rfl (.skip rfl (EnvSub.refl _))))) rfl rfl ⟨rfl, rfl⟩)
        refine SXL.nil ⟨rfl, rfl, rfl, ?_⟩
        refine SXA.done (by kernel_rfl) ?_
        refine SXL.nil ?_
        refine thenQ.normal ?_
        refine SX.condP rfl (fun c4 => ?_) (fun c4 => ?_)
        · refine SX.seq ?_
          refine SX.region ?_
          refine SXL.assign rfl ?_
          refine SXL.nil ?_
          refine thenQ.normal ?_
          refine SX.ret ?_
          refine blockQ.ret ?_
          refine thenQ.ret ?_
          refine thenQ.ret ?_
          refine blockQ.ret ?_
          refine thenQ.ret ?_
          refine retQ.one (ResAt.tmp rfl) ?_
          exact congrArg Value.bool (decide_eq_false (by intro h; have h1 := h.2.2 k hk; have e : ((k : Int) - 1).toNat = k - 1 := (by omega); rw [e] at c4; omega)).symm
        · refine SX.skip ?_
          refine blockQ.normal ?_
          refine thenQ.normal ?_
          refine SX.region ?_
          refine SXL.add rfl rfl (by omega) ?_
          refine SXL.move rfl ?_
          refine SXL.nil ?_
          refine thenQ.normal ?_
          refine ⟨k + 1, Meets.mk _ ⟨rfl, trivial⟩ ⟨rfl, rfl, rfl, rfl, trivial⟩ rfl, ?_, by omega⟩
          refine ⟨by omega, fun i hi h => ?_⟩
          by_cases hik : i = k
          · subst hik
            have e : ((i : Int) - 1).toNat = i - 1 := by omega
            rw [e] at c4
            omega
          · exact hall2 i (by omega) h
      · refine SX.exit ?_
        refine thenQ.exit ?_
        refine thenQ.exit ?_
        refine blockQ.exit ?_
        refine thenQ.normal ?_
        refine SX.seq ?_
        refine SX.region ?_
        refine SXL.assign rfl ?_
        refine SXL.nil ?_
        refine thenQ.normal ?_
        refine SX.ret ?_
        refine retQ.one (ResAt.tmp rfl) ?_
        exact congrArg Value.bool (decide_eq_true (p := SpP s) ⟨by unfold HeadP; omega, fun i h => hall i (by omega) h, fun i h => hall2 i (by omega) h⟩).symm
end Go.Proofs.YtolcicaclflagaaDoor
