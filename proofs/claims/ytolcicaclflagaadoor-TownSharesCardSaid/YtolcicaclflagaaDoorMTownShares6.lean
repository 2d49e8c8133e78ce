/- TownShares: whatever the input, the law returns true and the input reads as it did. Its condition: the package's variables are as the program's text lays them (the card ties them). -/
import Derived.Test.YtolcicaclflagaaDoorMTownShares5
import Derived.SevenTiedAt
/- The walks of the reference of layer 9: pulls that are the same; shares; what is behind a pull. -/
namespace Go.Proofs.YtolcicaclflagaaDoor
open Go.X Go.S Go.T Go.RowKit
theorem rcan_w (u : Su) (fo so : Option Addr) (fc sc : Nat) (fa : Nat → FA) (sa : Nat → DA) (W L : List Int) (wo lo : Option Addr) (wn ln wc lc : Nat) (hwn : W.length = wn) (hln : L.length = ln) (hW : W.length = u.founts.length) (hWs : Sm W) (hLn : L.length ≤ 5) (hLs : Sm L) (hl : LitP u) (w : World) (hs : SuAt w u fo so fa sa) (hwo : RowsAt w wo 1 (ones W)) (hlo : RowsAt w lo 1 (ones L)) :
    CallsR Tryd.prog 58 [.agg ⟨[.slice fo u.founts.length fc, .slice so u.streets.length sc]⟩, .slice wo wn wc, .slice lo ln lc] w (fun v _ => v = .bool (decide (CanP u W L))) := by
  subst hwn hln; exact rcan_any u fo so fc sc fa sa W L wo lo wc lc hW hWs hLn hLs hl w hs hwo hlo
theorem samePulls_any (l m : List Pul) (lo mo : Option Addr) (lc mc : Nat) (hmx : l.length ≤ 1000000) (w : World) (h1 : RowsAt w lo 3 (pulRows l)) (h2 : RowsAt w mo 3 (pulRows m)) :
    CallsR Tryd.prog 26 [.slice lo l.length lc, .slice mo m.length mc] w (fun v _ => v = .bool (decide (l = m))) := by
  refine CallsR.of_SX (n := 26) (rs := [.tmp 4]) Tryd.func26 rfl rfl rfl rfl ?_
  show SX _ _ _ ⟨[(0, .slice lo l.length lc), (1, .slice mo m.length mc)], [], []⟩
  refine SX.seq ?_
  refine SX.region ?_
  refine SXL.assign rfl ?_
  refine SXL.nil ?_
  refine thenQ.normal ?_
  refine SX.seq ?_
  refine SX.seq ?_
  refine SX.region ?_
  refine SXL.move rfl ?_
  refine SXL.len is_47 rfl ?_
  refine SXL.move rfl ?_
  refine SXL.len is_47 rfl ?_
  refine SXL.neqI rfl rfl ?_
  refine SXL.nil ?_
  refine thenQ.normal ?_
  refine SX.condP rfl (fun c10 => ?_) (fun c10 => ?_)
  · refine SX.seq ?_
    refine SX.region ?_
    refine SXL.assign rfl ?_
    refine SXL.nil ?_
    refine thenQ.normal ?_
    refine SX.ret ?_
    refine thenQ.ret ?_
    refine retQ.one (ResAt.tmp rfl) ?_
    exact congrArg Value.bool (decide_eq_false (by intro h; subst h; exact c10 rfl)).symm
  · refine SX.skip ?_
    refine thenQ.normal ?_
    refine SX.seq ?_
    refine SX.seq ?_
    refine SX.region ?_
    refine SXL.assign rfl ?_
    refine SXL.nil ?_
    refine thenQ.normal ?_
    refine SX.block ?_
    refine SX.loopG (α := Nat) [0, 1, 4] rfl (fun k => [(5, .int .i64 ((k : Int)))]) (fun k => []) (fun k => k ≤ l.length ∧ ∀ i, i < k → l.getD i default = m.getD i default) (fun k => l.length - k) 0 ⟨Nat.zero_le _, fun _ h => absurd h (Nat.not_lt_zero _)⟩ ⟨rfl, trivial⟩ rfl ?_
    rintro k ⟨hk, hall⟩
    refine SX.seq ?_
    refine SX.seq ?_
    refine SX.region ?_
    refine SXL.move rfl ?_
    refine SXL.move rfl ?_
    refine SXL.len is_47 rfl ?_
    refine SXL.lss rfl rfl ?_
    refine SXL.nil ?_
    refine thenQ.normal ?_
    refine SX.condP rfl (fun c14 => ?_) (fun c14 => ?_)
    · refine SX.skip ?_
      refine thenQ.normal ?_
      refine SX.seq ?_
      refine SX.block ?_
      refine SX.seq ?_
      obtain ⟨b, o, ha, hm⟩ := h1.get (i := k) (pulRows_get (by omega))
      obtain ⟨b2, o2, ha2, hn⟩ := h2.get (i := k) (pulRows_get (by omega))
      refine SX.draw 9 (by kernel_rfl) (by kernel_rfl) {} ?_
      refine SXA.take 0 9 rfl (by kernel_rfl) rfl ?_
      refine SXL.move rfl ?_
      refine SXL.move rfl ?_
      refine SXL.indexR el_47 rfl rfl ha (by omega) ?_
      refine SXL.loadN sh_100 rfl (hm _) rfl ?_
      refine SXL.move rfl ?_
      refine SXL.move rfl ?_
      refine SXL.indexR el_47 rfl rfl ha2 (by omega) ?_
      refine SXL.loadN sh_100 rfl (hn _) rfl ?_
      refine SXL.neqV (p := [(l.getD k default).street, (l.getD k default).fount, (l.getD k default).n] ≠ [(m.getD k default).street, (m.getD k default).fount, (m.getD k default).n]) (u := .agg ⟨ints ([(l.getD k default).street, (l.getD k default).fount, (l.getD k default).n])⟩) (v := .agg ⟨ints ([(m.getD k default).street, (m.getD k default).fount, (m.getD k default).n])⟩) rfl rfl (run_neq_ints eq_100 eg_100 sh_100 rfl rfl) ?_
      refine SXL.nil ⟨rfl, rfl, rfl, ?_⟩
      refine SXA.done (by kernel_rfl) ?_
      refine SXL.nil ?_
      refine thenQ.normal ?_
      refine SX.condP rfl (fun c25 => ?_) (fun c25 => ?_)
      · refine SX.seq ?_
        refine SX.region ?_
        refine SXL.assign rfl ?_
        refine SXL.nil ?_
        refine thenQ.normal ?_
        refine SX.ret ?_
        refine blockQ.ret ?_
        refine thenQ.ret ?_
        refine thenQ.ret ?_
        refine blockQ.ret ?_
        refine thenQ.ret ?_
        refine retQ.one (ResAt.tmp rfl) ?_
        exact congrArg Value.bool (decide_eq_false (by intro h; subst h; exact c25 rfl)).symm
      · refine SX.skip ?_
        refine blockQ.normal ?_
        refine thenQ.normal ?_
        refine SX.region ?_
        refine SXL.move rfl ?_
        refine SXL.add rfl rfl (by omega) ?_
        refine SXL.assign rfl ?_
        refine SXL.nil ?_
        refine thenQ.normal ?_
        refine ⟨k + 1, Meets.mk _ ⟨rfl, trivial⟩ ⟨rfl, rfl, rfl, trivial⟩ rfl, ?_, (by omega)⟩
        refine ⟨by omega, fun i hi => ?_⟩
        by_cases e : i = k
        · subst e; exact pul_ext (Decidable.not_not.1 c25)
        · exact hall i (by omega)
    · refine SX.exit ?_
      refine thenQ.exit ?_
      refine thenQ.exit ?_
      refine blockQ.exit ?_
      refine thenQ.normal ?_
      refine SX.seq ?_
      refine SX.region ?_
      refine SXL.assign rfl ?_
      refine SXL.nil ?_
      refine thenQ.normal ?_
      refine SX.ret ?_
      refine retQ.one (ResAt.tmp rfl) ?_
      exact congrArg Value.bool (decide_eq_true (list_extD (by omega) (fun i hi => hall i (by omega)))).symm
theorem rshares_any (u : Su) (fo so : Option Addr) (fc sc : Nat) (m : List Int) (mo : Option Addr) (mc : Nat) (hmx : m.length ≤ 1000000) (w : World) (h1 : RowsAt w mo 1 (ones m)) :
    CallsR Tryd.prog 63 [.agg ⟨[.slice fo u.founts.length fc, .slice so u.streets.length sc]⟩, .slice mo m.length mc] w (fun v _ => v = .bool (decide (ShaP u m))) := by
  refine CallsR.of_SX (n := 23) (rs := [.tmp 4]) Tryd.func63 rfl rfl rfl rfl ?_
  show SX _ _ _ ⟨[(0, .agg ⟨[.slice fo u.founts.length fc, .slice so u.streets.length sc]⟩), (1, .slice mo m.length mc)], [], []⟩
  refine SX.seq ?_
  refine SX.region ?_
  refine SXL.box rfl rfl ?_; intro b0
  refine SXL.assign rfl ?_
  refine SXL.nil ?_
  refine thenQ.normal ?_
  refine SX.seq ?_
  refine SX.seq ?_
  refine SX.region ?_
  refine SXL.move rfl ?_
  refine SXL.len is_33 rfl ?_
  refine SXL.move rfl ?_
  refine SXL.nil ?_
  refine thenQ.normal ?_
  refine SX.block ?_
  refine SX.loopW (α := Nat) [1, 2, 4, 7, 8] rfl (fun k => [(9, .int .i64 ((k : Int)))]) (fun k => [(b0, .cells ⟨[.slice fo u.founts.length fc, .slice so u.streets.length sc]⟩ 25 (0, 0))]) (fun k => []) (fun k => k ≤ m.length ∧ ∀ i, i < k → Wi (m.getD i 0) 0 100) (fun k => m.length - k) 0 ⟨Nat.zero_le _, fun _ h => absurd h (Nat.not_lt_zero _)⟩ ⟨rfl, trivial⟩ rfl ?_
  rintro k ⟨hk, hall⟩
  refine SX.seq ?_
  refine SX.region ?_
  refine SXL.lss rfl rfl ?_
  refine SXL.nil ?_
  refine thenQ.normal ?_
  refine SX.seq ?_
  refine SX.condP rfl (fun c10 => ?_) (fun c10 => ?_)
  · refine SX.skip ?_
    refine thenQ.normal ?_
    refine SX.seq ?_
    refine SX.block ?_
    refine SX.seq ?_
    obtain ⟨b, o, ha, hm⟩ := oneI h1 (i := k) (by omega)
    refine SX.region ?_
    refine SXL.indexR el_33 rfl rfl ha (by omega) ?_
    refine SXL.load1 sh_3 rfl (hm _) ?_
    refine SXL.assign rfl ?_
    refine SXL.nil ?_
    refine thenQ.normal ?_
    refine SX.seq ?_
    refine SX.region ?_
    refine SXL.move rfl ?_
    refine SXL.call1 (.bool (decide (Wi (m.getD k 0) (0) (100)))) fn_62 rfl (fun w hI => within9_any _ _ _ _) ?_
    refine SXL.not rfl ?_
    refine SXL.nil ?_
    refine thenQ.normal ?_
    refine SX.condP rfl (fun c15 => ?_) (fun c15 => ?_)
    · refine SX.seq ?_
      refine SX.region ?_
      refine SXL.assign rfl ?_
      refine SXL.nil ?_
      refine thenQ.normal ?_
      refine SX.ret ?_
      refine blockQ.ret ?_
      refine thenQ.ret ?_
      refine thenQ.ret ?_
      refine blockQ.ret ?_
      refine thenQ.ret ?_
      refine retQ.one (ResAt.tmp rfl) ?_
      exact congrArg Value.bool (decide_eq_false (by intro h; exact c15 (h.1 _ (by rw [List.getD_eq_getElem?_getD, List.getElem?_eq_getElem (by omega)]; exact List.getElem_mem _)))).symm
    · refine SX.skip ?_
      refine blockQ.normal ?_
      refine thenQ.normal ?_
      refine SX.region ?_
      refine SXL.add rfl rfl (by omega) ?_
      refine SXL.move rfl ?_
      refine SXL.nil ?_
      refine thenQ.normal ?_
      refine ⟨k + 1, MeetsW.mkP _ ⟨rfl, trivial⟩ ⟨rfl, rfl, rfl, rfl, rfl, trivial⟩ rfl, ?_, (by omega)⟩
      refine ⟨by omega, fun i hi => ?_⟩
      by_cases e : i = k
      · subst e; exact Decidable.not_not.1 c15
      · exact hall i (by omega)
  · refine SX.exit ?_
    refine thenQ.exit ?_
    refine thenQ.exit ?_
    refine blockQ.exit ?_
    refine thenQ.normal ?_
    refine SX.seq ?_
    refine SX.region ?_
    refine SXL.move rfl ?_
    refine SXL.len is_33 rfl ?_
    refine SXL.fieldAddr fp_25_1 rfl ?_
    refine SXL.load1o 0 sh_23 rfl rfl rfl ?_
    refine SXL.len is_23 rfl ?_
    refine SXL.eqlI rfl rfl ?_
    refine SXL.assign rfl ?_
    refine SXL.nil ?_
    refine thenQ.normal ?_
    refine SX.ret ?_
    refine retQ.one (ResAt.tmp rfl) ?_
    refine congrArg Value.bool (decide_eq_decide.2 ⟨fun h => ⟨fun x hx => ?_, by omega⟩, fun h => by have := h.2; omega⟩)
    obtain ⟨i, hi, rfl⟩ := List.getElem_of_mem hx
    have := hall i (by omega)
    rwa [List.getD_eq_getElem?_getD, List.getElem?_eq_getElem hi] at this
theorem rafter_any (u : Su) (fo so : Option Addr) (fc sc : Nat) (fa : Nat → FA) (sa : Nat → DA) (W L : List Int) (wo lo : Option Addr) (wc lc i a : Nat) (n : Int) (hW : W.length = u.founts.length) (hWs : ∀ j, 0 ≤ W.getD j 0 ∧ W.getD j 0 ≤ 100) (hLn : L.length ≤ 5) (hLs : ∀ j, 0 ≤ L.getD j 0 ∧ L.getD j 0 ≤ 100) (hW4 : W.length ≤ 4) (ha : a < W.length) (hi : i < L.length) (hn : 0 ≤ n ∧ n ≤ W.getD a 0 ∧ n ≤ L.getD i 0) (hl : LitP u) (w : World) (hs : SuAt w u fo so fa sa) (hwo : RowsAt w wo 1 (ones W)) (hlo : RowsAt w lo 1 (ones L)) :
    CallsR Tryd.prog 66 [.agg ⟨[.slice fo u.founts.length fc, .slice so u.streets.length sc]⟩, .slice wo W.length wc, .slice lo L.length lc, .int .i64 ((i : Int)), .int .i64 ((a : Int)), .int .i64 n] w (fun v _ => v = .bool (decide (CanP u (W.set a (W.getD a 0 - n)) (L.set i (L.getD i 0 - n))))) := by
  have hwa := hWs a
  have hli := hLs i
  have hSw : Sm (W.set a (W.getD a 0 - n)) := set_sm hWs (by omega)
  have hSl : Sm (L.set i (L.getD i 0 - n)) := set_sm hLs (by omega)
  refine CallsR.of_SX (n := 39) (rs := [.tmp 12]) Tryd.func66 rfl rfl rfl rfl ?_
  show SX _ _ _ ⟨[(0, .agg ⟨[.slice fo u.founts.length fc, .slice so u.streets.length sc]⟩), (1, .slice wo W.length wc), (2, .slice lo L.length lc), (3, .int .i64 ((i : Int))), (4, .int .i64 ((a : Int))), (5, .int .i64 n)], [], []⟩
  refine SX.seq ?_
  refine SX.region ?_
  refine SXL.box rfl rfl ?_; intro b0
  refine SXL.assign rfl ?_
  refine SXL.nil ?_
  refine thenQ.normal ?_
  refine SX.seq ?_
  refine SX.region ?_
  refine SXL.buildSlice0 et_33 ?_; intro b1
  refine SXL.move rfl ?_
  refine SXL.appendE (some b1) ap_33 rfl rfl (onesSrc hwo _) (by simp) (ints_isOne _) ⟨by simp only [maxLen]; omega, by omega⟩ ?_; intro r_17 o_17
  refine SXL.buildSlice0 et_33 ?_; intro b3
  refine SXL.move rfl ?_
  refine SXL.appendE (some b3) ap_33 rfl rfl (onesSrc hlo _) (by simp) (ints_isOne _) ⟨by simp only [maxLen]; omega, by omega⟩ ?_; intro r_20 o_20
  refine SXL.assign rfl ?_
  refine SXL.assign rfl ?_
  refine SXL.nil ?_
  refine thenQ.normal ?_
  refine SX.seq ?_
  refine SX.region ?_
  refine SXL.move rfl ?_
  refine SXL.move rfl ?_
  refine SXL.indexSl 2 el_33 rfl rfl (by omega) rfl o_17 ?_; intro x1 hx1
  refine SXL.loadSl1 2 (v := .int .i64 (W.getD a 0)) sh_3 rfl hx1 rfl o_17 (intsAtX (i := a) (by simp) (by omega)) ?_
  refine SXL.move rfl ?_
  refine SXL.sub rfl rfl (by omega) ?_
  refine SXL.indexSl 2 el_33 rfl rfl (by omega) rfl o_17 ?_; intro x2 hx2; obtain rfl : x1 = x2 := Option.some.inj (hx1.symm.trans hx2)
  refine SXL.storeI 2 (i := a) sz_3 rfl rfl hx1 rfl o_17 (by simp) (by omega) ?_
  refine SXL.nil ?_
  refine thenQ.normal ?_
  refine SX.seq ?_
  refine SX.region ?_
  refine SXL.move rfl ?_
  refine SXL.move rfl ?_
  refine SXL.indexSl 4 el_33 rfl rfl (by omega) rfl o_20 ?_; intro y1 hy1
  refine SXL.loadSl1 4 (v := .int .i64 (L.getD i 0)) sh_3 rfl hy1 rfl o_20 (intsAtX (i := i) (by simp) (by omega)) ?_
  refine SXL.move rfl ?_
  refine SXL.sub rfl rfl (by omega) ?_
  refine SXL.indexSl 4 el_33 rfl rfl (by omega) rfl o_20 ?_; intro y2 hy2; obtain rfl : y1 = y2 := Option.some.inj (hy1.symm.trans hy2)
  refine SXL.storeI 4 (i := i) sz_3 rfl rfl hy1 rfl o_20 (by simp) (by omega) ?_
  refine SXL.nil ?_
  refine thenQ.normal ?_
  refine SX.seq ?_
  refine SX.region ?_
  refine SXL.loadNo 0 sh_25 rfl rfl rfl ?_
  refine SXL.move rfl ?_
  refine SXL.move rfl ?_
  refine SXL.call1 (.bool (decide (CanP u (W.set a (W.getD a 0 - n)) (L.set i (L.getD i 0 - n))))) fn_58 rfl (fun w hI => rcan_w u fo so fc sc fa sa (W.set a (W.getD a 0 - n)) (L.set i (L.getD i 0 - n)) r_17.addr r_20.addr _ _ r_17.cap r_20.cap (by simp) (by simp) (by simpa using hW) hSw (by simpa using hLn) hSl hl w (hs.inv hI) (slOnes hI (o_17.setI a _) (i := 2) rfl) (slOnes hI (o_20.setI i _) (i := 4) rfl)) ?_
  refine SXL.assign rfl ?_
  refine SXL.nil ?_
  refine thenQ.normal ?_
  refine SX.ret ?_
  refine retQ.one (ResAt.tmp rfl) ?_
  first | rfl | assumption
theorem rafter_n (u : Su) (fo so : Option Addr) (fc sc : Nat) (fa : Nat → FA) (sa : Nat → DA) (W L : List Int) (wo lo : Option Addr) (wn ln wc lc i a : Nat) (n : Int) (hwn : W.length = wn) (hln : L.length = ln) (hW : W.length = u.founts.length) (hWs : ∀ j, 0 ≤ W.getD j 0 ∧ W.getD j 0 ≤ 100) (hLn : L.length ≤ 5) (hLs : ∀ j, 0 ≤ L.getD j 0 ∧ L.getD j 0 ≤ 100) (hW4 : W.length ≤ 4) (ha : a < W.length) (hi : i < L.length) (hn : 0 ≤ n ∧ n ≤ W.getD a 0 ∧ n ≤ L.getD i 0) (hl : LitP u) (w : World) (hs : SuAt w u fo so fa sa) (hwo : RowsAt w wo 1 (ones W)) (hlo : RowsAt w lo 1 (ones L)) (x : Int) (hx : x = a) (ns : Nat) (hns : u.streets.length = ns) :
    CallsR Tryd.prog 66 [.agg ⟨[.slice fo u.founts.length fc, .slice so ns sc]⟩, .slice wo wn wc, .slice lo ln lc, .int .i64 (i : Int), .int .i64 x, .int .i64 n] w (fun v _ => v = .bool (decide (CanP u (W.set a (W.getD a 0 - n)) (L.set i (L.getD i 0 - n))))) := by
  subst hwn hln hx hns; exact rafter_any u fo so fc sc fa sa W L wo lo wc lc i a n hW hWs hLn hLs hW4 ha hi hn hl w hs hwo hlo
end Go.Proofs.YtolcicaclflagaaDoor

/- The walks of the reference of layer 9: the pulls. -/
namespace Go.Proofs.YtolcicaclflagaaDoor
open Go.X Go.S Go.T Go.RowKit
set_option maxHeartbeats 4000000 in
theorem rpulls_any (u : Su) (fo so : Option Addr) (fc sc : Nat) (fa : Nat → FA) (sa : Nat → DA) (week : Int) (best : Bool) (m : List Int) (mo : Option Addr) (mc : Nat) (hmx : m.length ≤ 1000000) (hcap : CapD u sa u.streets.length) (hl : LitP u) (w : World) (hs : SuAt w u fo so fa sa) (hm : RowsAt w mo 1 (ones m)) :
    CallsR Tryd.prog 25 [.agg ⟨[.slice fo u.founts.length fc, .slice so u.streets.length sc]⟩, .int .i64 week, .bool best, .slice mo m.length mc] w (LpR (puL u week best m) (puE u week best m)) := by
  have hL0 := hl.1
  have hL1 := hl.2.1
  have hL2 := hl.2.2
  refine CallsR.of_SX (n := 131) (rs := [.tmp 8, .tmp 9]) Tryd.func25 rfl rfl rfl rfl ?_
  show SX _ _ _ ⟨[(0, .agg ⟨[.slice fo u.founts.length fc, .slice so u.streets.length sc]⟩), (1, .int .i64 week), (2, .bool best), (3, .slice mo m.length mc)], [], []⟩
  refine SX.seq ?_
  refine SX.region ?_
  refine SXL.box rfl rfl ?_; intro b0
  refine SXL.assign rfl ?_
  refine SXL.assign rfl ?_
  refine SXL.nil ?_
  refine thenQ.normal ?_
  refine SX.seq ?_
  refine SX.seq ?_
  refine SX.region ?_
  refine SXL.loadNo 0 sh_25 rfl rfl rfl ?_
  refine SXL.call1 (.bool (decide (SuP u))) fn_40 rfl (fun w hI => supply_any u fo so fc sc fa sa hl w (hs.inv hI)) ?_
  refine SXL.not rfl ?_
  refine SXL.nil ?_
  refine thenQ.normal ?_
  refine SX.condP rfl (fun c22 => ?_) (fun c22 => ?_)
  · refine SX.seq ?_
    refine SX.region ?_
    refine SXL.assign rfl ?_
    refine SXL.assign rfl ?_
    refine SXL.nil ?_
    refine thenQ.normal ?_
    refine SX.ret ?_
    refine thenQ.ret ?_
    refine retQ.dead [Sl.nil.ent 100 []] rfl ?_
    refine retQ.two (ResAt.tmp rfl) (ResAt.tmp rfl) ?_
    have hq : askT u week (ShaP u m) 94 = 90 := by rw [askT, if_pos c22]
    obtain ⟨e1, e2⟩ := pu_err (best := best) (m := m) (by rw [hq]; decide)
    exact LpR.errs e2 (by rw [e1, hq])
  · refine SX.skip ?_
    refine thenQ.normal ?_
    refine SX.seq ?_
    refine SX.seq ?_
    have hv := Classical.not_not.1 c22
    have hlo := hv.long
    refine SX.region ?_
    refine SXL.move rfl ?_
    refine SXL.loadNo 0 sh_25 rfl rfl rfl ?_
    refine SXL.call1 (.int .i64 (long u)) fn_41 rfl (fun w hI => rlong_any u fo so fc sc fa sa hl w (hs.inv hI)) ?_
    refine SXL.sub rfl rfl (by omega) ?_
    refine SXL.call1 (.bool (decide (Wi (week) (0) (long u - 1)))) fn_62 rfl (fun w hI => within9_any _ _ _ _) ?_
    refine SXL.not rfl ?_
    refine SXL.nil ?_
    refine thenQ.normal ?_
    refine SX.condP rfl (fun c28 => ?_) (fun c28 => ?_)
    · refine SX.seq ?_
      refine SX.region ?_
      refine SXL.assign rfl ?_
      refine SXL.assign rfl ?_
      refine SXL.nil ?_
      refine thenQ.normal ?_
      refine SX.ret ?_
      refine thenQ.ret ?_
      refine retQ.dead [Sl.nil.ent 100 []] rfl ?_
      refine retQ.two (ResAt.tmp rfl) (ResAt.tmp rfl) ?_
      have hq : askT u week (ShaP u m) 94 = 91 := by rw [askT, if_neg (Classical.not_not.2 hv), if_pos c28]
      obtain ⟨e1, e2⟩ := pu_err (best := best) (m := m) (by rw [hq]; decide)
      exact LpR.errs e2 (by rw [e1, hq])
    · refine SX.skip ?_
      refine thenQ.normal ?_
      refine SX.seq ?_
      refine SX.seq ?_
      have hw := Classical.not_not.1 c28
      refine SX.region ?_
      refine SXL.loadNo 0 sh_25 rfl rfl rfl ?_
      refine SXL.move rfl ?_
      refine SXL.call1 (.bool (decide (ShaP u m))) fn_63 rfl (fun w hI => rshares_any u fo so fc sc m mo mc hmx w (hm.inv hI)) ?_
      refine SXL.not rfl ?_
      refine SXL.nil ?_
      refine thenQ.normal ?_
      refine SX.condP rfl (fun c32 => ?_) (fun c32 => ?_)
      · refine SX.seq ?_
        refine SX.region ?_
        refine SXL.assign rfl ?_
        refine SXL.assign rfl ?_
        refine SXL.nil ?_
        refine thenQ.normal ?_
        refine SX.ret ?_
        refine thenQ.ret ?_
        refine retQ.dead [Sl.nil.ent 100 []] rfl ?_
        refine retQ.two (ResAt.tmp rfl) (ResAt.tmp rfl) ?_
        have hq : askT u week (ShaP u m) 94 = 94 := by rw [askT, if_neg (Classical.not_not.2 hv), if_neg (Classical.not_not.2 hw), if_pos c32]
        obtain ⟨e1, e2⟩ := pu_err (best := best) (m := m) (by rw [hq]; decide)
        exact LpR.errs e2 (by rw [e1, hq])
      · refine SX.skip ?_
        refine thenQ.normal ?_
        refine SX.seq ?_
        refine SX.seq ?_
        have hsh := Classical.not_not.1 c32
        refine SX.region ?_
        refine SXL.loadNo 0 sh_25 rfl rfl rfl ?_
        refine SXL.call1 (.bool (decide (TrueS u))) fn_64 rfl (fun w hI => rtrue_any u fo so fc sc fa sa (hv) hl w (hs.inv hI)) ?_
        refine SXL.not rfl ?_
        refine SXL.nil ?_
        refine thenQ.normal ?_
        refine SX.condP rfl (fun c35 => ?_) (fun c35 => ?_)
        · refine SX.seq ?_
          refine SX.region ?_
          refine SXL.assign rfl ?_
          refine SXL.assign rfl ?_
          refine SXL.nil ?_
          refine thenQ.normal ?_
          refine SX.ret ?_
          refine thenQ.ret ?_
          refine retQ.dead [Sl.nil.ent 100 []] rfl ?_
          refine retQ.two (ResAt.tmp rfl) (ResAt.tmp rfl) ?_
          have hq : askT u week (ShaP u m) 94 = 8 := by rw [askT, if_neg (Classical.not_not.2 hv), if_neg (Classical.not_not.2 hw), if_neg (Classical.not_not.2 hsh), if_neg c35]
          obtain ⟨e1, e2⟩ := pu_err (best := best) (m := m) (by rw [hq]; decide)
          exact LpR.errs e2 (by rw [e1, hq])
        · refine SX.skip ?_
          refine thenQ.normal ?_
          refine SX.seq ?_
          have ht := Classical.not_not.1 c35
          have hz := hv.1
          unfold SizeP at hz
          have he : askT u week (ShaP u m) 94 = 0 := by rw [askT, if_neg (Classical.not_not.2 hv), if_neg (Classical.not_not.2 hw), if_neg (Classical.not_not.2 hsh), if_pos ht]
          refine SX.region ?_
          refine SXL.loadNo 0 sh_25 rfl rfl rfl ?_
          refine SXL.move rfl ?_
          refine SXL.move rfl ?_
          refine SXL.callF (IsI (waterL u (week) (best))) fn_45 rfl (fun w hI => given_any u fo so fc sc fa sa (week) (best) hl w (hs.inv hI)) ?_; rintro _ _ ⟨qw, ow, rfl, rfl⟩
          refine SXL.buildSlice0 et_33 ?_; intro b2
          refine SXL.move rfl ?_
          refine SXL.appendE (some b2) ap_33 rfl rfl (onesSrc hm _) (by simp) (ints_isOne _) ⟨by simp only [maxLen]; omega, by omega⟩ ?_; intro r_42 o_42
          refine SXL.assign rfl ?_
          refine SXL.assign rfl ?_
          refine SXL.nil ?_
          refine thenQ.normal ?_
          refine SX.seq ?_
          refine SX.seq ?_
          refine SX.region ?_
          refine SXL.loadNo 0 sh_25 rfl rfl rfl ?_
          refine SXL.move rfl ?_
          refine SXL.move rfl ?_
          refine SXL.call1 (.bool (decide (CanP u (waterL u week best) m))) fn_58 rfl (fun w hI => rcan_w u fo so fc sc fa sa (waterL u week best) m qw.addr r_42.addr _ _ qw.cap r_42.cap rfl rfl (waterL_len u _ _) (water_sm hv ht hw _) (by have := hsh.2; omega) (Sm.of (sha_in hsh)) hl w (hs.inv hI) (slOnes hI ow (i := 1) rfl) (slOnes hI o_42 (i := 3) rfl)) ?_
          refine SXL.not rfl ?_
          refine SXL.nil ?_
          refine thenQ.normal ?_
          refine SX.condP rfl (fun c47 => ?_) (fun c47 => ?_)
          · refine SX.seq ?_
            refine SX.region ?_
            refine SXL.assign rfl ?_
            refine SXL.assign rfl ?_
            refine SXL.nil ?_
            refine thenQ.normal ?_
            refine SX.ret ?_
            refine thenQ.ret ?_
            refine retQ.dead [Sl.nil.ent 100 []] rfl ?_
            refine retQ.two (ResAt.tmp rfl) (ResAt.tmp rfl) ?_
            obtain ⟨e1, e2⟩ := pu_none he c47
            exact LpR.errs e2 e1.symm
          · refine SX.skip ?_
            refine thenQ.normal ?_
            refine SX.seq ?_
            have hcan := Classical.not_not.1 c47
            have hP0 : PI u 0 0 ⟨waterL u week best, m, []⟩ := PI.start (waterL_len u _ _) hsh.2 (water_in hv ht hw best) (sha_in hsh) hcan
            have hPS := PI.streets hv hP0
            refine SX.pad (Sl.nil.ent 100 []) rfl ?_
            refine SX.region ?_
            refine SXL.assign rfl ?_
            refine SXL.nil ?_
            refine thenQ.normal ?_
            refine SX.seq ?_
            refine SX.seq ?_
            refine SX.region ?_
            refine SXL.fieldAddr fp_25_1 rfl ?_
            refine SXL.load1o 0 sh_23 rfl rfl rfl ?_
            refine SXL.len is_23 rfl ?_
            refine SXL.move rfl ?_
            refine SXL.nil ?_
            refine thenQ.normal ?_
            refine SX.block ?_
            refine SX.loopW (α := Nat × List Int × List Int × Sl × Nat × List Value) [4, 8, 9, 10, 11, 49, 50] rfl (fun ⟨i, w_, l, qo, no, c⟩ => [(51, .int .i64 ((i : Int))), (12, qo.val no)]) (fun ⟨i, w_, l, qo, no, c⟩ => [(b0, .cells ⟨[.slice fo u.founts.length fc, .slice so u.streets.length sc]⟩ 25 (0, 0)), qw.ent 3 (ints w_), (b2, .cells ⟨[]⟩ 3 (0, 0)), r_42.ent 3 (ints l), qo.ent 100 c]) (fun ⟨i, w_, l, qo, no, c⟩ => []) (fun ⟨i, w_, l, qo, no, c⟩ => i ≤ u.streets.length ∧ qo.Ok no 3 c ∧ ∃ out, (⟨w_, l, out⟩ : PS) = pulS u ⟨waterL u week best, m, []⟩ i ∧ c = (pulRows out).flatten) (fun ⟨i, w_, l, qo, no, c⟩ => u.streets.length - i) (0, waterL u week best, m, Sl.nil, 0, []) ⟨Nat.zero_le _, .none _, [], rfl, rfl⟩ ⟨rfl, rfl, trivial⟩ rfl ?_
            rintro ⟨i, w_, l, qo, no, c⟩ ⟨hi, oo, out, hσ, rfl⟩
            refine SX.seq ?_
            refine SX.region ?_
            refine SXL.lss rfl rfl ?_
            refine SXL.nil ?_
            refine thenQ.normal ?_
            refine SX.seq ?_
            refine SX.condP rfl (fun c52 => ?_) (fun c52 => ?_)
            · refine SX.skip ?_
              refine thenQ.normal ?_
              refine SX.seq ?_
              refine SX.block ?_
              refine SX.seq ?_
              obtain ⟨bs, os, has_, hms⟩ := hs.street (i := i) (by omega)
              have hLi := hL2 i (by omega)
              refine SX.region ?_
              refine SXL.move rfl ?_
              refine SXL.indexR el_23 rfl rfl has_ (by omega) ?_
              refine SXL.loadN sh_73 rfl (hms _) rfl ?_
              refine SXL.alloc zp_73 ?_; intro b5
              refine SXL.assign rfl ?_
              refine SXL.store 5 sz_73 rfl rfl rfl rfl rfl rfl ?_
              refine SXL.nil ?_
              refine thenQ.normal ?_
              refine SX.seq ?_
              refine SX.region ?_
              refine SXL.loadNo 0 sh_25 rfl rfl rfl ?_
              refine SXL.callF (TwX u) fn_7 rfl (fun w hI => twinX_any u fo so fc sc fa sa hl w (hs.inv hI)) ?_; rintro _ _ ⟨q1, q2, ga, ta0, T0, o1, o20, hT1, hT2, hC, rfl, rfl⟩
              refine SXL.alloc zp_25 ?_; intro b8
              refine SXL.insN 8 ?_
              refine SXL.store 8 sz_25 rfl rfl rfl rfl rfl rfl ?_
              refine SXL.nil ?_
              refine thenQ.normal ?_
              refine SX.seq ?_
              have e0 : (srRowsN u ta0 u.streets.length).flatten = (srRowsN (withD u i (dropD u i (0))) ta0 u.streets.length).flatten := by rw [withD_id (show i < u.streets.length by omega)]
              refine SX.region ?_
              refine SXL.fieldAddr fp_73_3 rfl ?_
              refine SXL.load1o 5 sh_33 rfl rfl rfl ?_
              refine SXL.len is_33 rfl ?_
              refine SXL.move rfl ?_
              refine SXL.nil ?_
              refine thenQ.normal ?_
              refine SX.block ?_
              refine SX.loopW (α := Nat × List Int × List Int × Sl × Nat × List Value × (Nat → DA) × List Value × X.Own) [4, 8, 9, 10, 11, 13, 14, 15, 49, 50, 51, 59, 60] rfl (fun ⟨k, w_, l, qo, no, c, ta, c2, T⟩ => [(61, .int .i64 ((k : Int))), (12, qo.val no)]) (fun ⟨k, w_, l, qo, no, c, ta, c2, T⟩ => [(b0, .cells ⟨[.slice fo u.founts.length fc, .slice so u.streets.length sc]⟩ 25 (0, 0)), qw.ent 3 (ints w_), (b2, .cells ⟨[]⟩ 3 (0, 0)), r_42.ent 3 (ints l), qo.ent 100 c, (b5, .cells ⟨srC (u.streets.getD i default) (sa i)⟩ 73 (0, 0)), q1.ent 70 (foRowsN u ga u.founts.length).flatten, q2.ent 73 c2, (b8, .cells ⟨[q1.val u.founts.length, q2.val u.streets.length]⟩ 25 (0, 0))]) (fun ⟨k, w_, l, qo, no, c, ta, c2, T⟩ => T) (fun ⟨k, w_, l, qo, no, c, ta, c2, T⟩ => k ≤ (u.streets.getD i default).draws.length ∧ qo.Ok no 3 c ∧ (∃ out, (⟨w_, l, out⟩ : PS) = pulD u i (pulS u ⟨waterL u week best, m, []⟩ i) k ∧ c = (pulRows out).flatten) ∧ q2.Ok u.streets.length 5 c2 ∧ c2 = (srRowsN (withD u i (dropD u i (k))) ta u.streets.length).flatten ∧ SpHas T u ga u.founts.length ∧ DrHas T (withD u i (dropD u i (k))) ta u.streets.length) (fun ⟨k, w_, l, qo, no, c, ta, c2, T⟩ => (u.streets.getD i default).draws.length - k) (0, w_, l, qo, no, _, ta0, _, T0) ⟨Nat.zero_le _, oo, ⟨out, hσ, rfl⟩, o20, e0, hT1, by rw [withD_id (show i < u.streets.length by omega)]; exact hT2⟩ ⟨rfl, rfl, trivial⟩ rfl ?_
              rintro ⟨k, w_, l, qo, no, c, ta, c2, T⟩ ⟨hk, oo, ⟨out, hτ, rfl⟩, o2, hc2, hS, hD⟩
              refine SX.seq ?_
              refine SX.region ?_
              refine SXL.lss rfl rfl ?_
              refine SXL.nil ?_
              refine thenQ.normal ?_
              refine SX.seq ?_
              refine SX.condP rfl (fun c62 => ?_) (fun c62 => ?_)
              · refine SX.skip ?_
                refine thenQ.normal ?_
                refine SX.seq ?_
                refine SX.block ?_
                refine SX.seq ?_
                obtain ⟨bd, od, had, hmd⟩ := oneI (hs.draws i (by omega)) (i := k) (by omega)
                have hP1 := PI.drawn hv (hPS i (by omega)) (by omega) k (by omega)
                rw [← hτ] at hP1
                have hwf : w_.length = u.founts.length := hP1.lw
                have hlf : l.length = u.streets.length := hP1.ll
                have hw_ : ∀ j, 0 ≤ w_.getD j 0 ∧ w_.getD j 0 ≤ 100 := hP1.w_
                have hl_ : ∀ j, 0 ≤ l.getD j 0 ∧ l.getD j 0 ≤ 100 := hP1.l_
                have hwl : w_.length = (waterL u week best).length := by rw [waterL_len]; exact hwf
                have hll : l.length = m.length := by have := hsh.2; omega
                have okw := ow.list hwl
                have okl := o_42.list hll
                obtain ⟨hf0, hfn, hfid⟩ := fou_at hv (show i < u.streets.length by omega) (show k < (u.streets.getD i default).draws.length by omega)
                have hfi : fountI u (drawI u i k) = ((fouN u i k) : Int) := (Int.toNat_of_nonneg hf0).symm
                have hwa := hw_ (fouN u i k)
                have hli := hl_ i
                have hns2 : u.streets.length = (withD u i (dropD u i (k + 1))).streets.length := (withD_len _ _ _).symm
                have hl2 := withD_lit hl i (k + 1)
                have hset : ∀ r : Sl, r.Ok ((u.streets.getD i default).draws.length - (k + 1)) 1 (ints (dropD u i (k + 1))) → c2.set (i * 5 + 4) (r.val ((u.streets.getD i default).draws.length - (k + 1))) = (srRowsN (withD u i (dropD u i (k + 1))) (upd ta i (r.addr, r.cap)) u.streets.length).flatten := fun r _ => by rw [hc2]; exact withD_set (a := (r.addr, r.cap)) (by omega) (List.length_drop ..)
                have hsrc : ∀ own, Src w own (cutAddr (sa i).1 (k + 1) (sa i).2 1) ((u.streets.getD i default).draws.length - (k + 1)) (ints (dropD u i (k + 1))) := fun own => by have h := onesSrc (rowsCut1 (hs.draws i (by omega)) (i := k + 1) (hcap i (by omega))) own; rwa [List.length_drop] at h
                refine SX.region ?_
                refine SXL.move rfl ?_
                refine SXL.indexR el_33 rfl rfl had (by omega) ?_
                refine SXL.load1 sh_3 rfl (hmd _) ?_
                refine SXL.assign rfl ?_
                refine SXL.assign rfl ?_
                refine SXL.nil ?_
                refine thenQ.normal ?_
                refine SX.cutW (α := (Nat → DA) × List Value × X.Own) [4, 8, 9, 10, 11, 12, 13, 14, 15, 17, 49, 50, 51, 59, 60, 61] rfl (fun ⟨ta2, c3, T2⟩ => []) (fun ⟨ta2, c3, T2⟩ => [(b0, .cells ⟨[.slice fo u.founts.length fc, .slice so u.streets.length sc]⟩ 25 (0, 0)), qw.ent 3 (ints w_), (b2, .cells ⟨[]⟩ 3 (0, 0)), r_42.ent 3 (ints l), qo.ent 100 (pulRows out).flatten, (b5, .cells ⟨srC (u.streets.getD i default) (sa i)⟩ 73 (0, 0)), q1.ent 70 (foRowsN u ga u.founts.length).flatten, q2.ent 73 c3, (b8, .cells ⟨[q1.val u.founts.length, q2.val u.streets.length]⟩ 25 (0, 0))]) (fun ⟨ta2, c3, T2⟩ => T2) (fun ⟨ta2, c3, T2⟩ => c3 = (srRowsN (withD u i (dropD u i (k + 1))) ta2 u.streets.length).flatten ∧ q2.Ok u.streets.length 5 c3 ∧ SpHas T2 u ga u.founts.length ∧ DrHas T2 (withD u i (dropD u i (k + 1))) ta2 u.streets.length) ?_ ?_
                · refine SX.draw 12 (by kernel_rfl) (by kernel_rfl) {} ?_
                  refine SXA.take 0 3 rfl (by kernel_rfl) rfl ?_
                  refine SXL.fieldAddr fp_25_1 rfl ?_
                  refine SXL.load1o 8 sh_23 rfl rfl rfl ?_
                  refine SXL.move rfl ?_
                  refine SXL.nil ⟨rfl, rfl, rfl, ?_⟩
                  refine SXA.take 4 5 rfl (by kernel_rfl) rfl ?_
                  refine SXL.fieldAddr fp_73_3 rfl ?_
                  refine SXL.load1o 5 sh_33 rfl rfl rfl ?_
                  refine SXL.move rfl ?_
                  refine SXL.add rfl rfl (by omega) ?_
                  refine SXL.sliceL el_33 rfl rfl (by omega) ?_
                  refine SXL.nil ⟨rfl, rfl, rfl, ?_⟩
                  refine SXA.all [3] (by kernel_rfl) rfl ⟨⟨?_, rfl⟩, trivial⟩
                  refine (show SXL _ _ [_] _ _ from ?_)
                  refine SXL.buildSlice0 et_33 ?_; intro b9
                  refine SXL.nil (stepQ.mk _ rfl rfl ?_)
                  refine SXA.all [9] (by kernel_rfl) rfl ⟨⟨?_, rfl⟩, trivial⟩
                  refine (show SXL _ _ [_] _ _ from ?_)
                  refine SXL.appendE (some b9) ap_33 rfl rfl (hsrc _) (by simp) (ints_isOne _) ⟨by simp only [maxLen]; omega, by omega⟩ ?_; intro r_75 o_75
                  refine SXL.nil (stepQ.mk _ rfl rfl ?_)
                  refine SXA.take 10 2 rfl (by kernel_rfl) rfl ?_
                  refine SXL.indexSl 7 el_23 rfl rfl (by omega) rfl o2 ?_; intro bz hbz
                  refine SXL.fieldAddr fp_73_3 rfl ?_
                  refine SXL.nil ⟨rfl, rfl, rfl, ?_⟩
                  refine SXA.done (by kernel_rfl) ?_
                  refine SXL.storeS 7 sz_33 rfl rfl hbz rfl o2 rfl rfl (by rw [hc2, srRowsN_len]; omega) ?_
                  refine SXL.nil ?_
                  refine thenQ.normal ?_
                  refine ⟨(upd ta i (r_75.addr, r_75.cap), _, _), ⟨trivial, ⟨rfl, rfl, rfl, rfl, rfl, rfl, rfl, rfl, rfl, rfl, rfl, rfl, rfl, rfl, rfl, rfl, trivial⟩, Sel.pull rfl, rfl⟩, ⟨by rw [show 0 + ((i : Int)).toNat * 5 + 4 = i * 5 + 4 by omega]; exact hset r_75 o_75, ?_, ?_, ?_⟩⟩
                  · exact o2.cells (by rw [List.length_set])
                  · show SpHas ((T ++ [(b9, _)]) ++ [r_75.ent 3 _]) u ga _
                    exact hS.of (Sel.sub ((List.sublist_append_left T _).trans (List.sublist_append_left _ _)))
                  · show DrHas ((T ++ [(b9, _)]) ++ [r_75.ent 3 _]) _ _ _
                    exact DrHas.cut (by omega) (hD.of (Sel.pre T _)) o_75
                rintro ⟨ta2, c3, T2⟩ ⟨hc3, o22, hS2, hD2⟩
                refine SX.seq ?_
                refine SX.region ?_
                refine SXL.loadNo 0 sh_25 rfl rfl rfl ?_
                refine SXL.move rfl ?_
                refine SXL.call1 (.int .i64 (fountI u (drawI u i k))) fn_65 rfl (fun w hI => rfount_any u fo so fc sc fa sa (drawI u i k) hl w (hs.inv hI)) ?_
                refine SXL.assign rfl ?_
                refine SXL.nil ?_
                refine thenQ.normal ?_
                refine SX.seq ?_
                refine SX.draw 10 (by kernel_rfl) (by kernel_rfl) {} ?_
                refine SXA.take 0 10 rfl (by kernel_rfl) rfl ?_
                refine SXL.move rfl ?_
                refine SXL.move rfl ?_
                refine SXL.indexSl 3 el_33 rfl rfl (by omega) rfl okl ?_; intro y0 hy0
                refine SXL.loadSl1 3 (v := .int .i64 (l.getD i 0)) sh_3 rfl hy0 rfl okl (intsAtX (i := i) (by simp) (by omega)) ?_
                refine SXL.move rfl ?_
                refine SXL.move rfl ?_
                refine SXL.indexSl 1 el_33 rfl rfl (by omega) rfl okw ?_; intro x0 hx0
                refine SXL.loadSl1 1 (v := .int .i64 (w_.getD (fouN u i k) 0)) sh_3 rfl hx0 rfl okw (intsAtX (i := (fouN u i k)) (by unfold fouN; omega) (by omega)) ?_
                refine SXL.min rfl rfl ?_
                refine SXL.assign rfl ?_
                refine SXL.nil ⟨rfl, rfl, rfl, ?_⟩
                refine SXA.done (by kernel_rfl) ?_
                refine SXL.nil ?_
                refine thenQ.normal ?_
                refine SX.seq ?_
                refine SX.block ?_
                refine SX.loopW (α := Nat) [4, 8, 9, 10, 11, 12, 13, 14, 15, 17, 18, 49, 50, 51, 59, 60, 61] rfl (fun n => [(19, .int .i64 ((n : Int)))]) (fun n => [(b0, .cells ⟨[.slice fo u.founts.length fc, .slice so u.streets.length sc]⟩ 25 (0, 0)), qw.ent 3 (ints w_), (b2, .cells ⟨[]⟩ 3 (0, 0)), r_42.ent 3 (ints l), qo.ent 100 (pulRows out).flatten, (b5, .cells ⟨srC (u.streets.getD i default) (sa i)⟩ 73 (0, 0)), q1.ent 70 (foRowsN u ga u.founts.length).flatten, q2.ent 73 c3, (b8, .cells ⟨[q1.val u.founts.length, q2.val u.streets.length]⟩ 25 (0, 0))]) (fun n => T2) (fun n => n ≤ (min (l.getD i 0) (w_.getD (fouN u i k) 0)).toNat ∧ lgst (PullP u i k w_ l) n = pulN u i k w_ l) (fun n => n) (min (l.getD i 0) (w_.getD (fouN u i k) 0)).toNat ⟨Nat.le_refl _, rfl⟩ ⟨congrArg (fun z => some (Value.int .i64 z)) (Int.toNat_of_nonneg (by omega)).symm, trivial⟩ rfl ?_
                rintro n ⟨hn, hlg⟩
                refine SX.seq ?_
                refine SX.seq ?_
                refine SX.region ?_
                refine SXL.move rfl ?_
                refine SXL.gtr rfl rfl ?_
                refine SXL.move rfl ?_
                apply SXL.andG 8
                case hl => exact rfl
                case hd => exact rfl
                case hg => exact rfl
                case ht =>
                  intro c101
                  refine SXL.loadNo 8 sh_25 rfl rfl rfl ?_
                  refine SXL.move rfl ?_
                  refine SXL.move rfl ?_
                  refine SXL.move rfl ?_
                  refine SXL.move rfl ?_
                  refine SXL.move rfl ?_
                  refine SXL.call1 (.bool (decide (CanP (withD u i (dropD u i (k + 1))) (w_.set (fouN u i k) (w_.getD (fouN u i k) 0 - (n : Int))) (l.set i (l.getD i 0 - (n : Int)))))) fn_66 rfl (fun w hI => rafter_n (withD u i (dropD u i (k + 1))) q1.addr q2.addr q1.cap q2.cap ga ta2 w_ l qw.addr r_42.addr _ _ qw.cap r_42.cap i (fouN u i k) (n : Int) hwl hll hwf hw_ (by omega) hl_ (by omega) (by omega) (by omega) (by omega) hl2 w (suAtT hI (hI.weaken (List.sublist_append_right [_, _, _, _, _, _, _, _, _] _)) rfl hns2 o1 (hc3 ▸ o22) (i := 6) (j := 7) rfl (hc3 ▸ rfl) hS2 hD2) (slOnes hI okw (i := 1) rfl) (slOnes hI okl (i := 3) rfl) _ hfi _ hns2.symm) ?_
                  refine SXL.not rfl ?_
                  exact SXL.nil (segQ.mk (.skip rfl (.skip rfl (.skip rfl (.skip rfl (.skip rfl (.skip rfl (.skip rfl (.skip rfl (.skip rfl (EnvSub.refl _)))))))))) rfl rfl ⟨rfl, rfl⟩)
                case hf =>
                  intro c101
                  refine SXL.pass rfl rfl rfl ?_
                  refine SXL.pass rfl rfl rfl ?_
                  refine SXL.pass rfl rfl rfl ?_
                  refine SXL.pass rfl rfl rfl ?_
                  refine SXL.pass rfl rfl rfl ?_
                  refine SXL.pass rfl rfl rfl ?_
                  refine SXL.pass rfl rfl rfl ?_
                  refine SXL.pass rfl rfl rfl ?_
                  exact SXL.nil (segQ.mk (.skip rfl (.skip rfl (.skip rfl (.skip rfl (.skip rfl (.skip rfl (.skip rfl (.skip rfl (.skip rfl (EnvSub.refl _)))))))))) rfl rfl rfl)
                refine SXL.nil ?_
                refine thenQ.normal ?_
                refine SX.condP rfl (fun c101 => ?_) (fun c101 => ?_)
                · refine SX.skip ?_
                  refine thenQ.normal ?_
                  refine SX.block ?_
                  refine SX.region ?_
                  refine SXL.move rfl ?_
                  refine SXL.sub rfl rfl (by omega) ?_
                  refine SXL.assign rfl ?_
                  refine SXL.nil ?_
                  refine blockQ.normal ?_
                  refine thenQ.normal ?_
                  refine ⟨n - 1, MeetsW.mk0 9 9 ⟨congrArg (fun z => some (Value.int .i64 z)) (by omega), trivial⟩ ⟨rfl, rfl, rfl, rfl, rfl, rfl, rfl, rfl, rfl, rfl, rfl, rfl, rfl, rfl, rfl, rfl, rfl, trivial⟩ rfl rfl, ⟨by omega, ?_⟩, (show n - 1 < n by omega)⟩
                  obtain ⟨n, rfl⟩ : ∃ z, n = z + 1 := ⟨n - 1, by omega⟩
                  rw [← hlg]
                  exact (if_neg c101.2).symm
                · refine SX.exit ?_
                  refine thenQ.exit ?_
                  refine thenQ.exit ?_
                  refine blockQ.exit ?_
                  refine thenQ.normal ?_
                  refine SX.seq ?_
                  refine SX.seq ?_
                  refine SX.region ?_
                  refine SXL.move rfl ?_
                  refine SXL.eqlI rfl rfl ?_
                  refine SXL.nil ?_
                  refine thenQ.normal ?_
                  refine SX.condP rfl (fun c105 => ?_) (fun c105 => ?_)
                  · refine SX.exit ?_
                    refine thenQ.exit ?_
                    refine blockQ.exit ?_
                    refine thenQ.normal ?_
                    refine SX.region ?_
                    refine SXL.add rfl rfl (by omega) ?_
                    refine SXL.move rfl ?_
                    refine SXL.nil ?_
                    refine thenQ.normal ?_
                    refine ⟨(k + 1, _, _, _, _, _, ta2, _, _), MeetsW.mk0 9 9 ⟨rfl, rfl, trivial⟩ ⟨rfl, rfl, rfl, rfl, rfl, rfl, rfl, rfl, rfl, rfl, rfl, rfl, rfl, trivial⟩ rfl rfl, ?_, (show (u.streets.getD i default).draws.length - (k + 1) < (u.streets.getD i default).draws.length - k by omega)⟩
                    have hN : pulN u i k w_ l = n := by rw [← hlg]; exact lgst_self (by by_cases h0 : n = 0; exact .inl h0; exact .inr (Decidable.not_not.1 (fun h => c101 ⟨by omega, h⟩)))
                    first
                      | (obtain rfl : n = 0 := by omega
                         exact ⟨by omega, oo, ⟨out, by rw [hτ]; exact (pull1_no (by rw [← hτ]; exact hN)).symm, rfl⟩, o22, hc3, hS2, hD2⟩)
                      | (have hn0 : n ≠ 0 := by omega
                         have hy := pull1_yes (u := u) (i := i) (k := k) (s := ⟨w_, l, out⟩) hN hn0
                         exact ⟨by omega, o_127, ⟨out ++ [Pul.mk (u.streets.getD i default).id (drawI u i k) (n : Int)], hy.symm.trans (congrArg (pull1 u i k) hτ), (pulRows_add out (Pul.mk (u.streets.getD i default).id (drawI u i k) (n : Int))).symm⟩, o22, hc3, hS2, hD2⟩)
                  · refine SX.skip ?_
                    refine thenQ.normal ?_
                    refine SX.seq ?_
                    refine SX.region ?_
                    refine SXL.move rfl ?_
                    refine SXL.move rfl ?_
                    refine SXL.indexSl 1 el_33 rfl rfl (by omega) rfl okw ?_; intro x1 hx1
                    refine SXL.loadSl1 1 (v := .int .i64 (w_.getD (fouN u i k) 0)) sh_3 rfl hx1 rfl okw (intsAtX (i := (fouN u i k)) (by unfold fouN; omega) (by omega)) ?_
                    refine SXL.move rfl ?_
                    refine SXL.sub rfl rfl (by omega) ?_
                    refine SXL.indexSl 1 el_33 rfl rfl (by omega) rfl okw ?_; intro x2 hx2; obtain rfl : x1 = x2 := Option.some.inj (hx1.symm.trans hx2)
                    refine SXL.storeI 1 (i := (fouN u i k)) sz_3 rfl rfl hx1 rfl okw (by unfold fouN; omega) (by omega) ?_
                    refine SXL.nil ?_
                    refine thenQ.normal ?_
                    refine SX.seq ?_
                    refine SX.region ?_
                    refine SXL.move rfl ?_
                    refine SXL.move rfl ?_
                    refine SXL.indexSl 3 el_33 rfl rfl (by omega) rfl okl ?_; intro y1 hy1
                    refine SXL.loadSl1 3 (v := .int .i64 (l.getD i 0)) sh_3 rfl hy1 rfl okl (intsAtX (i := i) (by simp) (by omega)) ?_
                    refine SXL.move rfl ?_
                    refine SXL.sub rfl rfl (by omega) ?_
                    refine SXL.indexSl 3 el_33 rfl rfl (by omega) rfl okl ?_; intro y2 hy2; obtain rfl : y1 = y2 := Option.some.inj (hy1.symm.trans hy2)
                    refine SXL.storeI 3 (i := i) sz_3 rfl rfl hy1 rfl okl (by simp) (by omega) ?_
                    refine SXL.nil ?_
                    refine thenQ.normal ?_
                    have hno := Ok.puls oo
                    have hpl := pulD_len u i (pulS u ⟨waterL u week best, m, []⟩ i) k
                    rw [← hτ] at hpl
                    have hps := pulS_len (s := ⟨waterL u week best, m, []⟩) hL2 i (by omega)
                    simp only [List.length_nil] at hps
                    have hpl2 : out.length ≤ (pulS u ⟨waterL u week best, m, []⟩ i).out.length + k := hpl
                    refine SX.region ?_
                    refine SXL.move rfl ?_
                    refine SXL.fieldAddr fp_73_0 rfl ?_
                    refine SXL.load1o 5 sh_3 rfl rfl rfl ?_
                    refine SXL.move rfl ?_
                    refine SXL.move rfl ?_
                    refine SXL.buildS pl_100 zp_100 rfl rfl ?_
                    refine SXL.buildSlice et_47 zp_100 rfl rfl rfl rfl ?_; intro b9
                    refine SXL.insN 9 ?_
                    refine SXL.append 4 ap_47 rfl rfl oo rfl (.inr ⟨_, _, rfl, Mem.own (i := 9) rfl (takeAt_all _)⟩) rfl rfl ⟨by simp only [maxLen]; omega, by omega⟩ ?_; intro r_127 o_127
                    refine SXL.assign rfl ?_
                    refine SXL.nil ?_
                    refine blockQ.normal ?_
                    refine thenQ.normal ?_
                    refine SX.region ?_
                    refine SXL.add rfl rfl (by omega) ?_
                    refine SXL.move rfl ?_
                    refine SXL.nil ?_
                    refine thenQ.normal ?_
                    refine ⟨(k + 1, _, _, _, _, _, ta2, _, _), MeetsW.mk0 9 10 ⟨rfl, rfl, trivial⟩ ⟨rfl, rfl, rfl, rfl, rfl, rfl, rfl, rfl, rfl, rfl, rfl, rfl, rfl, trivial⟩ rfl rfl, ?_, (show (u.streets.getD i default).draws.length - (k + 1) < (u.streets.getD i default).draws.length - k by omega)⟩
                    have hN : pulN u i k w_ l = n := by rw [← hlg]; exact lgst_self (by by_cases h0 : n = 0; exact .inl h0; exact .inr (Decidable.not_not.1 (fun h => c101 ⟨by omega, h⟩)))
                    first
                      | (obtain rfl : n = 0 := by omega
                         exact ⟨by omega, oo, ⟨out, by rw [hτ]; exact (pull1_no (by rw [← hτ]; exact hN)).symm, rfl⟩, o22, hc3, hS2, hD2⟩)
                      | (have hn0 : n ≠ 0 := by omega
                         have hy := pull1_yes (u := u) (i := i) (k := k) (s := ⟨w_, l, out⟩) hN hn0
                         exact ⟨by omega, o_127, ⟨out ++ [Pul.mk (u.streets.getD i default).id (drawI u i k) (n : Int)], hy.symm.trans (congrArg (pull1 u i k) hτ), (pulRows_add out (Pul.mk (u.streets.getD i default).id (drawI u i k) (n : Int))).symm⟩, o22, hc3, hS2, hD2⟩)
              · refine SX.exit ?_
                refine thenQ.exit ?_
                refine thenQ.exit ?_
                refine blockQ.exit ?_
                refine blockQ.normal ?_
                refine thenQ.normal ?_
                refine SX.region ?_
                refine SXL.add rfl rfl (by omega) ?_
                refine SXL.move rfl ?_
                refine SXL.nil ?_
                refine thenQ.normal ?_
                refine ⟨(i + 1, _, _, _, _, _), MeetsW.mkP _ ⟨rfl, rfl, trivial⟩ ⟨rfl, rfl, rfl, rfl, rfl, rfl, rfl, trivial⟩ rfl, ⟨by omega, oo, out, ?_, rfl⟩, (show u.streets.length - (i + 1) < u.streets.length - i by omega)⟩
                obtain rfl : k = (u.streets.getD i default).draws.length := by omega
                exact hτ
            · refine SX.exit ?_
              refine thenQ.exit ?_
              refine thenQ.exit ?_
              refine blockQ.exit ?_
              refine thenQ.normal ?_
              refine SX.seq ?_
              refine SX.region ?_
              refine SXL.move rfl ?_
              refine SXL.assign rfl ?_
              refine SXL.assign rfl ?_
              refine SXL.nil ?_
              refine thenQ.normal ?_
              refine SX.ret ?_
              refine retQ.sel [4] rfl rfl ?_
              refine retQ.two (ResAt.tmp rfl) (ResAt.tmp rfl) ?_
              obtain rfl : i = u.streets.length := by omega
              obtain ⟨e1, e2⟩ := pu_some he hcan
              rw [e1, e2, ← hσ]
              obtain rfl := Ok.puls oo
              exact ⟨qo, oo, rfl, rfl⟩
end Go.Proofs.YtolcicaclflagaaDoor

/- The walk of TownShares. -/
namespace Go.Proofs.YtolcicaclflagaaDoor
open Go.X Go.S Go.T Go.RowKit
set_option maxHeartbeats 8000000 in
set_option maxRecDepth 100000 in
theorem shares_law (u : Su) (fo so : Option Addr) (fc sc : Nat) (fa : Nat → FA) (sa : Nat → DA) (week : Int) (best : Bool) (m : List Int) (mo : Option Addr) (mc : Nat) (w : World) (hg : Gt w) (hs : SuAt w u fo so fa sa) (hcap : CapD u sa u.streets.length) (hm : RowsAt w mo 1 (ones m)) :
    CallsR Tryd.prog 4 [.agg ⟨[.slice fo u.founts.length fc, .slice so u.streets.length sc]⟩, .int .i64 week, .bool best, .slice mo m.length mc] w (fun v _ => v = .bool true) := by
  refine CallsR.of_SX (n := 89) (rs := [.tmp 8]) Tryd.func4 rfl rfl rfl rfl ?_
  show SX _ _ _ ⟨[(0, .agg ⟨[.slice fo u.founts.length fc, .slice so u.streets.length sc]⟩), (1, .int .i64 week), (2, .bool best), (3, .slice mo m.length mc)], [], []⟩
  refine SX.seq ?_
  refine SX.region ?_
  refine SXL.box rfl rfl ?_; intro b0
  refine SXL.assign rfl ?_
  refine SXL.nil ?_
  refine thenQ.normal ?_
  refine SX.seq ?_
  refine SX.seq ?_
  refine SX.region ?_
  refine SXL.loadNo 0 sh_25 rfl rfl rfl ?_
  refine SXL.call1 (.bool (decide (¬LitP u))) fn_6 rfl (fun w hI => great9_any u fo so fc sc fa sa w (hs.inv hI)) ?_
  refine SXL.move rfl ?_
  apply SXL.orG 3
  case hl => exact rfl
  case hd => exact rfl
  case hg => exact rfl
  case ht =>
    intro c25
    refine SXL.pass rfl rfl rfl ?_
    refine SXL.pass rfl rfl rfl ?_
    refine SXL.pass rfl rfl rfl ?_
    exact SXL.nil (segQ.mk (.skip rfl (.skip rfl (.skip rfl (.skip rfl (EnvSub.refl _))))) rfl rfl rfl)
  case hf =>
    intro c25
    refine SXL.move rfl ?_
    refine SXL.len is_33 rfl ?_
    refine SXL.gtr rfl rfl ?_
    exact SXL.nil (segQ.mk (.skip rfl (.skip rfl (.skip rfl (.skip rfl (EnvSub.refl _))))) rfl rfl ⟨rfl, rfl⟩)
  refine SXL.nil ?_
  refine thenQ.normal ?_
  refine SX.condP rfl (fun c25 => ?_) (fun c25 => ?_)
  · refine SX.seq ?_
    refine SX.region ?_
    refine SXL.assign rfl ?_
    refine SXL.nil ?_
    refine thenQ.normal ?_
    refine SX.ret ?_
    refine thenQ.ret ?_
    refine retQ.dead [] rfl ?_
    refine retQ.one (ResAt.tmp rfl) ?_
    first | rfl | simp
  · refine SX.skip ?_
    refine thenQ.normal ?_
    refine SX.seq ?_
    have hl := Decidable.not_not.1 (not_or.1 c25).1
    have hmx : m.length ≤ 1000000 := by have := (not_or.1 c25).2; omega
    refine SX.region ?_
    refine SXL.loadNo 0 sh_25 rfl rfl rfl ?_
    refine SXL.callF (TwC u) fn_7 rfl (fun w hI => (twinX_any u fo so fc sc fa sa hl w (hs.inv hI)).mono fun _ _ h => h.c) ?_; rintro _ T ⟨q1, q2, ga, ta, rfl, hT, hTc⟩
    refine SXL.buildSlice0 et_33 ?_; intro b1
    refine SXL.insN 1 ?_
    refine SXL.move rfl ?_
    refine SXL.appendE (some b1) ap_33 rfl rfl (onesSrc hm _) (by simp) (ints_isOne _) ⟨by simp only [maxLen]; omega, by omega⟩ ?_; intro r_30 o_30
    refine SXL.insN 2 ?_
    refine SXL.alloc zp_25 ?_; intro b3
    refine SXL.insN 3 ?_
    refine SXL.store 3 sz_25 rfl rfl rfl rfl rfl rfl ?_
    refine SXL.assign rfl ?_
    refine SXL.nil ?_
    refine thenQ.normal ?_
    refine SX.seq ?_
    refine SX.region ?_
    refine SXL.loadNo 3 sh_25 rfl rfl rfl ?_
    refine SXL.move rfl ?_
    refine SXL.move rfl ?_
    refine SXL.callF (LeR (faL u week best) (faE u week best)) fn_22 rfl (fun w hI => tfair_any u q1.addr q2.addr q1.cap q2.cap ga ta week best hl w (hg.inv hI) (hT _ _ (hI.weaken (List.sublist_append_right [_, _, _, _] T)))) ?_; rintro _ _ ⟨f1, of1, rfl, rfl⟩
    refine SXL.insN 4 ?_
    refine SXL.move rfl ?_
    refine SXL.extract rfl rfl ?_
    refine SXL.extract rfl rfl ?_
    refine SXL.assign rfl ?_
    refine SXL.assign rfl ?_
    refine SXL.nil ?_
    refine thenQ.normal ?_
    refine SX.seq ?_
    refine SX.region ?_
    refine SXL.loadNo 0 sh_25 rfl rfl rfl ?_
    refine SXL.move rfl ?_
    refine SXL.move rfl ?_
    refine SXL.callF (LeR (faL u week best) (faE u week best)) fn_23 rfl (fun w hI => rfair_any u fo so fc sc fa sa week best hl w (hs.inv hI)) ?_; rintro _ _ ⟨f2, of2, rfl, rfl⟩
    refine SXL.insN 5 ?_
    refine SXL.move rfl ?_
    refine SXL.extract rfl rfl ?_
    refine SXL.extract rfl rfl ?_
    refine SXL.assign rfl ?_
    refine SXL.assign rfl ?_
    refine SXL.nil ?_
    refine thenQ.normal ?_
    refine SX.seq ?_
    refine SX.region ?_
    refine SXL.loadNo 3 sh_25 rfl rfl rfl ?_
    refine SXL.move rfl ?_
    refine SXL.move rfl ?_
    refine SXL.move rfl ?_
    refine SXL.callF (LpR (puL u week best m) (puE u week best m)) fn_24 rfl (fun w hI => tpulls_any u q1.addr q2.addr q1.cap q2.cap ga ta week best m r_30.addr r_30.cap hmx hTc hl w (hg.inv hI) (hT _ _ (hI.weaken (List.sublist_append_right [_, _, _, _, _, _] T))) (slOnes hI o_30 (i := 2) rfl)) ?_; rintro _ _ ⟨p1, op1, rfl, rfl⟩
    refine SXL.insN 6 ?_
    refine SXL.move rfl ?_
    refine SXL.extract rfl rfl ?_
    refine SXL.extract rfl rfl ?_
    refine SXL.assign rfl ?_
    refine SXL.assign rfl ?_
    refine SXL.nil ?_
    refine thenQ.normal ?_
    refine SX.seq ?_
    refine SX.region ?_
    refine SXL.loadNo 0 sh_25 rfl rfl rfl ?_
    refine SXL.move rfl ?_
    refine SXL.move rfl ?_
    refine SXL.move rfl ?_
    refine SXL.callF (LpR (puL u week best m) (puE u week best m)) fn_25 rfl (fun w hI => rpulls_any u fo so fc sc fa sa week best m mo mc hmx hcap hl w (hs.inv hI) (hm.inv hI)) ?_; rintro _ _ ⟨p2, op2, rfl, rfl⟩
    refine SXL.insN 7 ?_
    refine SXL.move rfl ?_
    refine SXL.extract rfl rfl ?_
    refine SXL.extract rfl rfl ?_
    refine SXL.assign rfl ?_
    refine SXL.assign rfl ?_
    refine SXL.nil ?_
    refine thenQ.normal ?_
    refine SX.seq ?_
    refine SX.region ?_
    refine SXL.move rfl ?_
    refine SXL.move rfl ?_
    refine SXL.call1 (.bool (decide (faL u week best = faL u week best))) fn_20 rfl (fun w hI => sameInts9_any (faL u week best) (faL u week best) f1.addr f2.addr f1.cap f2.cap faL_len w (slOnes hI of1 (i := 4) rfl) (slOnes hI of2 (i := 5) rfl)) ?_
    refine SXL.move rfl ?_
    apply SXL.andG 3
    case hl => exact rfl
    case hd => exact rfl
    case hg => exact rfl
    case ht =>
      intro g3
      refine SXL.move rfl ?_
      refine SXL.move rfl ?_
      refine SXL.eqlI rfl rfl ?_
      exact SXL.nil (segQ.mk (.skip rfl (.skip rfl (.skip rfl (.skip rfl (EnvSub.refl _))))) rfl rfl ⟨rfl, rfl⟩)
    case hf =>
      intro g3
      refine SXL.pass rfl rfl rfl ?_
      refine SXL.pass rfl rfl rfl ?_
      refine SXL.pass rfl rfl rfl ?_
      exact SXL.nil (segQ.mk (.skip rfl (.skip rfl (.skip rfl (.skip rfl (EnvSub.refl _))))) rfl rfl rfl)
    refine SXL.move rfl ?_
    apply SXL.andG 3
    case hl => exact rfl
    case hd => exact rfl
    case hg => exact rfl
    case ht =>
      intro g4
      refine SXL.move rfl ?_
      refine SXL.move rfl ?_
      refine SXL.call1 (.bool (decide (puL u week best m = puL u week best m))) fn_26 rfl (fun w hI => samePulls_any (puL u week best m) (puL u week best m) p1.addr p2.addr p1.cap p2.cap (puL_len hl) w (Sl.rows hI (by omega) op1 (i := 6) rfl (pulRows3 _)) (Sl.rows hI (by omega) op2 (i := 7) rfl (pulRows3 _))) ?_
      exact SXL.nil (segQ.mk (.skip rfl (.skip rfl (.skip rfl (.skip rfl (EnvSub.refl _))))) rfl rfl ⟨rfl, rfl⟩)
    case hf =>
      intro g4
      refine SXL.pass rfl rfl rfl ?_
      refine SXL.pass rfl rfl rfl ?_
      refine SXL.pass rfl rfl rfl ?_
      exact SXL.nil (segQ.mk (.skip rfl (.skip rfl (.skip rfl (.skip rfl (EnvSub.refl _))))) rfl rfl rfl)
    refine SXL.move rfl ?_
    apply SXL.andG 3
    case hl => exact rfl
    case hd => exact rfl
    case hg => exact rfl
    case ht =>
      intro g5
      refine SXL.move rfl ?_
      refine SXL.move rfl ?_
      refine SXL.eqlI rfl rfl ?_
      exact SXL.nil (segQ.mk (.skip rfl (.skip rfl (.skip rfl (.skip rfl (EnvSub.refl _))))) rfl rfl ⟨rfl, rfl⟩)
    case hf =>
      intro g5
      refine SXL.pass rfl rfl rfl ?_
      refine SXL.pass rfl rfl rfl ?_
      refine SXL.pass rfl rfl rfl ?_
      exact SXL.nil (segQ.mk (.skip rfl (.skip rfl (.skip rfl (.skip rfl (EnvSub.refl _))))) rfl rfl rfl)
    refine SXL.move rfl ?_
    apply SXL.andG 3
    case hl => exact rfl
    case hd => exact rfl
    case hg => exact rfl
    case ht =>
      intro g6
      refine SXL.loadNo 3 sh_25 rfl rfl rfl ?_
      refine SXL.loadNo 0 sh_25 rfl rfl rfl ?_
      refine SXL.call1 (.bool (decide (u = u))) fn_21 rfl (fun w hI => same9_any u u q1.addr q2.addr fo so q1.cap q2.cap fc sc ga fa ta sa hl w (hT _ _ (hI.weaken (List.sublist_append_right [_, _, _, _, _, _, _, _] T))) (hs.inv hI)) ?_
      exact SXL.nil (segQ.mk (.skip rfl (.skip rfl (.skip rfl (.skip rfl (EnvSub.refl _))))) rfl rfl ⟨rfl, rfl⟩)
    case hf =>
      intro g6
      refine SXL.pass rfl rfl rfl ?_
      refine SXL.pass rfl rfl rfl ?_
      refine SXL.pass rfl rfl rfl ?_
      exact SXL.nil (segQ.mk (.skip rfl (.skip rfl (.skip rfl (.skip rfl (EnvSub.refl _))))) rfl rfl rfl)
    refine SXL.move rfl ?_
    apply SXL.andG 3
    case hl => exact rfl
    case hd => exact rfl
    case hg => exact rfl
    case ht =>
      intro g7
      refine SXL.move rfl ?_
      refine SXL.move rfl ?_
      refine SXL.call1 (.bool (decide (m = m))) fn_20 rfl (fun w hI => sameInts9_any m m r_30.addr mo r_30.cap mc hmx w (slOnes hI o_30 (i := 2) rfl) (hm.inv hI)) ?_
      exact SXL.nil (segQ.mk (.skip rfl (.skip rfl (.skip rfl (.skip rfl (EnvSub.refl _))))) rfl rfl ⟨rfl, rfl⟩)
    case hf =>
      intro g7
      refine SXL.pass rfl rfl rfl ?_
      refine SXL.pass rfl rfl rfl ?_
      refine SXL.pass rfl rfl rfl ?_
      exact SXL.nil (segQ.mk (.skip rfl (.skip rfl (.skip rfl (.skip rfl (EnvSub.refl _))))) rfl rfl rfl)
    refine SXL.assign rfl ?_
    refine SXL.nil ?_
    refine thenQ.normal ?_
    refine SX.ret ?_
    refine retQ.dead [] rfl ?_
    refine retQ.one (ResAt.tmp rfl) ?_
    first | rfl | simp
end Go.Proofs.YtolcicaclflagaaDoor

/- TownShares: whatever the input, the law returns true and the input reads as it did. Its condition: the package's variables are as the program's text lays them (the card ties them). -/
namespace Go.Proofs.YtolcicaclflagaaDoor.TownShares
open Go Go.X Go.S Go.T Go.RowKit Go.ChangeShapes Go.WideShapes Go.ChangeAt
set_option maxRecDepth 100000
/-- The door's own heap meets the condition. -/
theorem door_met (os : Os) (args : Array Value) : laidMetH Tryd.prog Rows.townSharesRow.laid ((World.doorLaid Tryd.prog 24 os).forCall (fun _ _ => 0) ⟨#[], args, []⟩).memory :=
  laidMetH_of_parts3 (fuel := 8) (laidMet_of_run' 8 (by kernel_rfl) (by kernel_rfl)) (by kernel_rfl) (by kernel_rfl)
theorem spec_fn (H : Type) (ds : List (DataW H)) (h : ds.length = Tryd.f4.params.toList.length) : Rows.townSharesSpec.fn H ds = { results := [.lit (.bool true)], args := ds } := by
  rw [Tryd.params4] at h
  match ds, h with
  | [e0, e1, e2, e3], _ => rfl
theorem contract (H : Type) (enc : TypeId × Value → H) (W : World) (base : Nat) (args : Array Value) (ds gs : List (DataW H)) (before : List MemPlace)
    (hval : ∀ (j : Nat) t v, Tryd.f4.params[j]? = some t → args[j]? = some v → Value.okWide Tryd.prog W .any base t v)
    (hW : DataW.Whole enc Tryd.prog Tryd.f4.params.toList Rows.townSharesSpec.vars false W args.toList ds gs before) (hL : laidMetH Tryd.prog Rows.townSharesRow.laid W) :
    Calls Tryd.prog 4 args W fun e W' => ∃ v, e = .returned v ∧ Rows.townSharesSpec.post enc Tryd.prog Tryd.f4 false true false false W args v W' := by
  have hW' := hW
  obtain ⟨p, q, hA0, hV, rfl, hfz, hnd⟩ := hW
  have hA : DataW.TrodAll enc Tryd.prog W 0 (fun _ => true) true Tryd.f4.params.toList args.toList ds p := hA0
  rw [Tryd.params4] at hA hval
  obtain ⟨v0, vs0, d0, ds0, p0, q0, hv0, rfl, hp0, h0, r0⟩ := trodAll_cons hA
  obtain ⟨v1, vs1, d1, ds1, p1, q1, hv1, rfl, hp1, h1, r1⟩ := trodAll_cons r0
  obtain ⟨v2, vs2, d2, ds2, p2, q2, hv2, rfl, hp2, h2, r2⟩ := trodAll_cons r1
  obtain ⟨v3, vs3, d3, ds3, p3, q3, hv3, rfl, hp3, h3, r3⟩ := trodAll_cons r2
  obtain ⟨hvn, rfl, hpn⟩ := trodAll_nil r3
  have hargs : args = #[v0, v1, v2, v3] := by cases args; simp_all
  subst hargs
  obtain ⟨cs0, rfl, hf0⟩ := arg_struct lay25 ⟨_, Tryd.underlying25⟩ (hval 0 25 _ rfl rfl) h0
  obtain ⟨u, fo, so, fc, sc, fa, sa, rfl, hs, hcap⟩ := su_of_fits2 hf0
  obtain ⟨week, rfl, bweek⟩ := fit_i64 (arg_cell lay3 (by kernel_rfl) (hval 1 3 _ rfl rfl) h1)
  obtain ⟨best, rfl⟩ := fit_bool (arg_cell lay4 (by kernel_rfl) (hval 2 4 _ rfl rfl) h2)
  obtain ⟨shareso, sharesc, shares, rfl, hshares⟩ := ints_of_fit (arg_cell lay33 (by kernel_rfl) (hval 3 33 _ rfl rfl) h3)
  have hg : Gt W := ⟨⟨checks_of_laid hL (by simp [Rows.townSharesRow]), none_of_laid hL rfl⟩, tchecks_of_laid hL (by simp [Rows.townSharesRow])⟩
  refine Calls.mono (show Calls Tryd.prog 4 _ W _ from shares_law u fo so fc sc fa sa week best shares shareso sharesc W hg hs hcap hshares) ?_
  rintro e W' ⟨v, own, rfl, hI, rfl⟩
  exact ⟨_, rfl, law_post laidOut (by rw [Tryd.params4]; kernel_rfl) rfl (spec_fn H) (tb := 4) (by kernel_rfl) Tryd.underlying4 hW' hI.below⟩
theorem lifted (os : Os) (started : os.Started) (H : Type) (enc : TypeId × Value → H) :
    ReturnsInHanded {} Tryd.checked os 4 .any (fun w args => (Rows.townSharesSpec.pre enc Tryd.prog Tryd.f4 [] false w args ∧ laidMetH Tryd.prog Rows.townSharesRow.laid w) ∧ sizedMet enc Tryd.prog Tryd.f4 (OpenSpec.ofChange Rows.townSharesSpec) false w args)
      (Rows.townSharesSpec.post enc Tryd.prog Tryd.f4 false true false false) := by
  refine returnsInHanded_of_change_and (C := Tryd.checked) (X := fun w _ => laidMetH Tryd.prog Rows.townSharesRow.laid w) (fun _ _ _ hh h => h.of_heap hh) ownGd started (by kernel_rfl) Tryd.func4
    (ChangeSpec.witness_shaped (enc := enc) (C := Tryd.checked) (os := os) (X := fun w _ => laidMetH Tryd.prog Rows.townSharesRow.laid w) false (World.doorLaid Tryd.prog 24 os) #[.agg ⟨[.slice none 0 0, .slice none 0 0]⟩, .int .i64 0, .bool false, .slice none 0 0] 8 rfl (World.shaped_of_RefB (by kernel_rfl) (by kernel_rfl)) (by kernel_rfl) (by kernel_rfl) (by kernel_rfl) (door_met os _)) ?_
  intro W base args ds gs before hval0 hW _ _ hL _
  exact contract H enc W base args ds gs before hval0 hW hL
theorem said : Rows.TownSharesSaid :=
  OpenClaim.holds_of_wide 4 Tryd.f4 rfl rfl rfl rfl rfl rfl rfl ⟨rfl, rfl, rfl, rfl, rfl⟩ rfl rfl rfl rfl rfl (by kernel_rfl) Tryd.func4 (by kernel_rfl)
    (of_decide_eq_true (by kernel_rfl)) (by unfold Func.isWrapper; first | (rw [if_pos (by decide +kernel)]; kernel_rfl) | (rw [if_neg (by decide +kernel)]; exact ⟨rfl, rfl⟩))
    (fun os started H enc _ => lifted os started H enc)
theorem plain (f : FuncId) (fn : Func) (hf : Tryd.pinned.checked.prog.funcNamed "aguador/aguadorlaw09.TownShares" = some f) (hfn : Tryd.pinned.checked.prog.funcs[f]? = some fn) :
    false = Tryd.pinned.checked.prog.looks [] ∧ ∀ (j : Nat) t, fn.params[j]? = some t → Tryd.pinned.checked.prog.wantsStandIn t = false := by
  obtain rfl : f = 4 := Option.some.inj ((show Tryd.prog.funcNamed "aguador/aguadorlaw09.TownShares" = some 4 by kernel_rfl).symm.trans hf) |>.symm
  obtain rfl : fn = Tryd.f4 := (Option.some.inj (Tryd.func4.symm.trans hfn)).symm
  refine ⟨by kernel_rfl, fun j t ht => ?_⟩
  rw [Tryd.params4] at ht
  have hm : t ∈ ([25, 3, 4, 33] : List TypeId) := by simpa using Array.mem_of_getElem? ht
  have hall : (([25, 3, 4, 33] : List TypeId).all fun u => !Tryd.prog.wantsStandIn u) = true := by kernel_rfl
  exact (show Tryd.prog.wantsStandIn t = false by simpa using List.all_eq_true.1 hall t hm)
theorem townShares_card : Rows.TownSharesCardSaid :=
  Claim7.holds_tied_plain_at .later [] _ _ _ _ said (fun _ h => by cases h) (by kernel_rfl) (fun _ h => by cases h) townShares_row_tie rfl ⟨rfl, rfl⟩ (by kernel_rfl) rfl plain (by kernel_rfl)
end Go.Proofs.YtolcicaclflagaaDoor.TownShares
