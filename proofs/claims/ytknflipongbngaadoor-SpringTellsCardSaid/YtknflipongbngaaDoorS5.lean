/- The walks of functions. -/
import Derived.Test.YtknflipongbngaaDoorFacts
import Derived.Test.YtknflipongbngaaDoorS4
import Derived.Test.YtknflipongbngaaDoorD6
namespace Go.Proofs.YtknflipongbngaaDoor
open Go.X Go.S Go.RowKit
theorem scan_any (s : Sp) (bo ro : Option Addr) (bc rc : Nat) (hb : s.book.length ≤ 1000000) (hr : s.reads.length ≤ 1000000) (w : World) (hg : Gl w) (hs : SpAt w s bo ro) :
    CallsR Tryd.prog 18 [.agg ⟨[.int .i64 s.weeks, .int .i64 s.most, .int .i64 s.fall, .int .i64 s.a0, .int .i64 s.a1, .int .i64 s.w0, .int .i64 s.w1, (.slice bo s.book.length bc), (.slice ro s.reads.length rc)]⟩] w (fun v _ => v = .tuple ⟨[.bool (decide (SpP s ∧ TrueP s)), .int .i64 (if SpP s then 0 else 10)]⟩) := by
  refine CallsR.of_SX (n := 19) (rs := [.tmp 2, .tmp 3]) Tryd.func18 rfl rfl rfl rfl ?_
  show SX _ _ _ ⟨[(0, .agg ⟨[.int .i64 s.weeks, .int .i64 s.most, .int .i64 s.fall, .int .i64 s.a0, .int .i64 s.a1, .int .i64 s.w0, .int .i64 s.w1, (.slice bo s.book.length bc), (.slice ro s.reads.length rc)]⟩)], [], []⟩
  refine SX.seq ?_
  refine SX.region ?_
  refine SXL.box rfl rfl ?_; intro b0
  refine SXL.assign rfl ?_
  refine SXL.assign rfl ?_
  refine SXL.nil ?_
  refine thenQ.normal ?_
  refine SX.seq ?_
  refine SX.seq ?_
  refine SX.region ?_
  refine SXL.loadNo 0 sh_27 rfl rfl rfl ?_
  refine SXL.call1 (.int .i64 (if SpP s then 0 else 10)) fn_26 rfl (fun w hI => scheck_any s bo ro _ _ hb hr _ (hg.inv hI) (hs.inv hI)) ?_
  refine SXL.assign rfl ?_
  refine SXL.nil ?_
  refine thenQ.normal ?_
  refine SX.seq ?_
  refine SX.region ?_
  refine SXL.move rfl ?_
  refine SXL.neqI rfl rfl ?_
  refine SXL.nil ?_
  refine thenQ.normal ?_
  refine SX.condP rfl (fun c10 => ?_) (fun c10 => ?_)
  · refine SX.seq ?_
    refine SX.region ?_
    refine SXL.move rfl ?_
    refine SXL.assign rfl ?_
    refine SXL.assign rfl ?_
    refine SXL.nil ?_
    refine thenQ.normal ?_
    refine SX.ret ?_
    refine thenQ.ret ?_
    refine retQ.two (ResAt.tmp rfl) (ResAt.tmp rfl) ?_
    have hv : ¬SpP s := fun h => c10 (by rw [if_pos h])
    rw [decide_eq_false (p := SpP s ∧ TrueP s) (fun h => hv h.1)]
  · refine SX.skip ?_
    refine thenQ.normal ?_
    refine SX.seq ?_
    have hv : SpP s := Decidable.byContradiction fun h => c10 (by rw [if_neg h]; omega)
    refine SX.region ?_
    refine SXL.loadNo 0 sh_27 rfl rfl rfl ?_
    refine SXL.call1 (.agg ⟨watC s bo ro bc rc (flL s)⟩) fn_72 rfl (fun w hI => flowing_any s bo ro bc rc hv _ (hg.inv hI) (hs.inv hI)) ?_
    refine SXL.call1 (.tuple ⟨[.agg ⟨ints (outL s.weeks.toNat (lvsL s (baseL s) (rnsL s (baseL s))))⟩, .bool (decide (rnsL s (baseL s) ≠ []))]⟩) fn_73 rfl (fun w hI => spans_any s bo ro bc rc (flL s) (baseL s) hv (relW hv) _ (hg.inv hI) (hs.inv hI)) ?_
    refine SXL.move rfl ?_
    refine SXL.extract rfl rfl ?_
    refine SXL.extract rfl rfl ?_
    refine SXL.alloc zp_114 ?_; intro b1
    refine SXL.store 1 sz_114 rfl rfl rfl rfl (by simp [outL]) (putAt_all _ _ (by simp [outL])) ?_ (ints_isOne _)
    refine SXL.assign rfl ?_
    refine SXL.nil ?_
    refine thenQ.normal ?_
    refine SX.seq ?_
    refine SX.region ?_
    refine SXL.move rfl ?_
    refine SXL.assign rfl ?_
    refine SXL.assign rfl ?_
    refine SXL.nil ?_
    refine thenQ.normal ?_
    refine SX.ret ?_
    refine retQ.two (ResAt.tmp rfl) (ResAt.tmp rfl) ?_
    rw [if_pos hv, decide_eq_decide.2 (show TrueP s ↔ SpP s ∧ TrueP s from ⟨fun h => ⟨hv, h⟩, fun h => h.2⟩)]
theorem asked_any (s : Sp) (bo ro : Option Addr) (bc rc : Nat) (p : Prop) [Decidable p] (e : Int) (hb : s.book.length ≤ 1000000) (hr : s.reads.length ≤ 1000000) (w : World) (hg : Gl w) (hs : SpAt w s bo ro) :
    CallsR Tryd.prog 75 [.agg ⟨[.int .i64 s.weeks, .int .i64 s.most, .int .i64 s.fall, .int .i64 s.a0, .int .i64 s.a1, .int .i64 s.w0, .int .i64 s.w1, (.slice bo s.book.length bc), (.slice ro s.reads.length rc)]⟩, .bool (decide (p)), .int .i64 e] w (fun v _ => AskR s bo ro bc rc p e v) := by
  refine CallsR.of_SX (n := 38) (rs := [.cell 6 117, .cell 7 114, .tmp 8]) Tryd.func75 rfl rfl rfl rfl ?_
  show SX _ _ _ ⟨[(0, .agg ⟨[.int .i64 s.weeks, .int .i64 s.most, .int .i64 s.fall, .int .i64 s.a0, .int .i64 s.a1, .int .i64 s.w0, .int .i64 s.w1, (.slice bo s.book.length bc), (.slice ro s.reads.length rc)]⟩), (1, .bool (decide (p))), (2, .int .i64 e)], [], []⟩
  refine SX.seq ?_
  refine SX.region ?_
  refine SXL.box rfl rfl ?_; intro b0
  refine SXL.alloc zp_117 ?_; intro b1
  refine SXL.alloc zp_114 ?_; intro b2
  refine SXL.assign rfl ?_
  refine SXL.nil ?_
  refine thenQ.normal ?_
  refine SX.seq ?_
  refine SX.seq ?_
  refine SX.region ?_
  refine SXL.loadNo 0 sh_27 rfl rfl rfl ?_
  refine SXL.call1 (.int .i64 (if SpP s then 0 else 10)) fn_26 rfl (fun w hI => scheck_any s bo ro _ _ hb hr _ (hg.inv hI) (hs.inv hI)) ?_
  refine SXL.assign rfl ?_
  refine SXL.nil ?_
  refine thenQ.normal ?_
  refine SX.seq ?_
  refine SX.region ?_
  refine SXL.move rfl ?_
  refine SXL.neqI rfl rfl ?_
  refine SXL.nil ?_
  refine thenQ.normal ?_
  refine SX.condP rfl (fun c16 => ?_) (fun c16 => ?_)
  · refine SX.seq ?_
    refine SX.region ?_
    refine SXL.buildS pl_117 zp_117 rfl rfl ?_
    refine SXL.buildA ae_114 zp_114 rfl rfl ?_
    refine SXL.move rfl ?_
    refine SXL.store 1 sz_117 rfl rfl rfl rfl rfl rfl ?_
    refine SXL.store 2 sz_114 rfl rfl rfl rfl rfl rfl ?_
    refine SXL.assign rfl ?_
    refine SXL.nil ?_
    refine thenQ.normal ?_
    refine SX.ret ?_
    refine thenQ.ret ?_
    refine retQ.three (ResAt.cellNo 1 sh_117 rfl rfl rfl) (ResAt.cellNo 2 sh_114 rfl rfl rfl) (ResAt.tmp rfl) ?_
    have hv : ¬SpP s := fun h => c16 (by rw [if_pos h])
    exact ⟨_, List.replicate 20 0, rfl, rfl, rfl, by rw [askE, if_pos hv, if_neg hv]; rfl, fun h => absurd h hv⟩
  · refine SX.skip ?_
    refine thenQ.normal ?_
    refine SX.seq ?_
    refine SX.seq ?_
    have hv : SpP s := Decidable.byContradiction fun h => c16 (by rw [if_neg h]; omega)
    refine SX.region ?_
    refine SXL.move rfl ?_
    refine SXL.not rfl ?_
    refine SXL.nil ?_
    refine thenQ.normal ?_
    refine SX.condP rfl (fun c21 => ?_) (fun c21 => ?_)
    · refine SX.seq ?_
      refine SX.region ?_
      refine SXL.buildS pl_117 zp_117 rfl rfl ?_
      refine SXL.buildA ae_114 zp_114 rfl rfl ?_
      refine SXL.move rfl ?_
      refine SXL.store 1 sz_117 rfl rfl rfl rfl rfl rfl ?_
      refine SXL.store 2 sz_114 rfl rfl rfl rfl rfl rfl ?_
      refine SXL.assign rfl ?_
      refine SXL.nil ?_
      refine thenQ.normal ?_
      refine SX.ret ?_
      refine thenQ.ret ?_
      refine retQ.three (ResAt.cellNo 1 sh_117 rfl rfl rfl) (ResAt.cellNo 2 sh_114 rfl rfl rfl) (ResAt.tmp rfl) ?_
      exact ⟨_, List.replicate 20 0, rfl, rfl, rfl, by rw [askE, if_neg (by simpa using hv), if_pos c21]; rfl, fun _ h => absurd h c21⟩
    · refine SX.skip ?_
      refine thenQ.normal ?_
      refine SX.seq ?_
      refine SX.region ?_
      refine SXL.loadNo 0 sh_27 rfl rfl rfl ?_
      refine SXL.call1 (.agg ⟨watC s bo ro bc rc (flL s)⟩) fn_72 rfl (fun w hI => flowing_any s bo ro bc rc hv _ (hg.inv hI) (hs.inv hI)) ?_
      refine SXL.alloc zp_117 ?_; intro b3
      refine SXL.store 3 sz_117 rfl rfl rfl rfl (watC_len (by simp [flL])) (putAt_all _ _ (watC_len (by simp [flL]))) ?_ (watC_one _ _ _ _ _ _)
      refine SXL.nil ?_
      refine thenQ.normal ?_
      refine SX.seq ?_
      refine SX.region ?_
      refine SXL.loadNo 3 sh_117 rfl rfl (takeAt_full (watC_len (by simp [flL]))) ?_
      refine SXL.call1 (.tuple ⟨[.agg ⟨ints (outL s.weeks.toNat (lvsL s (baseL s) (rnsL s (baseL s))))⟩, .bool (decide (rnsL s (baseL s) ≠ []))]⟩) fn_73 rfl (fun w hI => spans_any s bo ro bc rc (flL s) (baseL s) hv (relW hv) _ (hg.inv hI) (hs.inv hI)) ?_
      refine SXL.move rfl ?_
      refine SXL.extract rfl rfl ?_
      refine SXL.extract rfl rfl ?_
      refine SXL.alloc zp_114 ?_; intro b4
      refine SXL.store 4 sz_114 rfl rfl rfl rfl (by simp [outL]) (putAt_all _ _ (by simp [outL])) ?_ (ints_isOne _)
      refine SXL.assign rfl ?_
      refine SXL.nil ?_
      refine thenQ.normal ?_
      refine SX.seq ?_
      refine SX.seq ?_
      refine SX.region ?_
      refine SXL.move rfl ?_
      refine SXL.not rfl ?_
      refine SXL.nil ?_
      refine thenQ.normal ?_
      refine SX.condP rfl (fun c33 => ?_) (fun c33 => ?_)
      · refine SX.seq ?_
        refine SX.region ?_
        refine SXL.buildS pl_117 zp_117 rfl rfl ?_
        refine SXL.buildA ae_114 zp_114 rfl rfl ?_
        refine SXL.store 1 sz_117 rfl rfl rfl rfl rfl rfl ?_
        refine SXL.store 2 sz_114 rfl rfl rfl rfl rfl rfl ?_
        refine SXL.assign rfl ?_
        refine SXL.nil ?_
        refine thenQ.normal ?_
        refine SX.ret ?_
        refine thenQ.ret ?_
        refine retQ.three (ResAt.cellNo 1 sh_117 rfl rfl rfl) (ResAt.cellNo 2 sh_114 rfl rfl rfl) (ResAt.tmp rfl) ?_
        exact ⟨_, List.replicate 20 0, rfl, rfl, rfl, by rw [askE, if_neg (by simpa using hv), if_neg c21, if_neg c33]; rfl, fun _ _ h => absurd h c33⟩
      · refine SX.skip ?_
        refine thenQ.normal ?_
        refine SX.seq ?_
        refine SX.draw 5 (by kernel_rfl) (by kernel_rfl) ⟨[1, 3, 4], [true, false, false]⟩ ?_
        refine SXA.take 0 1 rfl (by kernel_rfl) rfl ?_
        refine SXL.loadNo 3 sh_117 rfl rfl (takeAt_full (watC_len (by simp [flL]))) ?_
        refine SXL.nil ⟨rfl, rfl, rfl, ?_⟩
        refine SXA.takeM 1 1 rfl (by kernel_rfl) rfl ?_
        refine SXL.loadNo 2 sh_114 rfl rfl (takeAt_full (by simp [outL])) ?_
        refine SXL.nil ⟨rfl, rfl, rfl, ?_⟩
        refine SXA.all [2] (by kernel_rfl) rfl ⟨⟨?_, rfl⟩, trivial⟩
        refine (show SXL _ _ [_] _ _ from ?_)
        refine SXL.store 1 sz_117 rfl rfl rfl rfl (watC_len (by simp [flL])) (putAt_all _ _ (watC_len (by simp [flL]))) ?_ (watC_one _ _ _ _ _ _)
        refine SXL.nil (stepQ.mkL _ (by kernel_rfl) rfl rfl ?_)
        refine SXA.all [3] (by kernel_rfl) rfl ⟨⟨?_, rfl⟩, trivial⟩
        refine (show SXL _ _ [_] _ _ from ?_)
        refine SXL.store 2 sz_114 rfl rfl rfl rfl (by simp [outL]) (putAt_all _ _ (by simp [outL])) ?_ (ints_isOne _)
        refine SXL.nil (stepQ.mkL _ (by kernel_rfl) rfl rfl ?_)
        refine SXA.takeM 4 1 rfl (by kernel_rfl) rfl ?_
        refine SXL.assign rfl ?_
        refine SXL.nil ⟨rfl, rfl, rfl, ?_⟩
        refine SXA.done (by kernel_rfl) ?_
        refine SXL.nil ?_
        refine thenQ.normal ?_
        refine SX.ret ?_
        refine retQ.three (ResAt.cellNo 1 sh_117 rfl rfl (takeAt_full (watC_len (by simp [flL])))) (ResAt.cellNo 2 sh_114 rfl rfl (takeAt_full (k := 20) (by simp [outL]))) (ResAt.tmp rfl) ?_
        exact ⟨_, outA s, watC_len (by simp [flL]), watC_one _ _ _ _ _ _, by simp [outA, outL], by rw [askE, if_neg (by simpa using hv), if_neg c21, if_pos (Decidable.not_not.1 c33)]; rfl, fun _ _ _ => ⟨rfl, rfl⟩⟩
end Go.Proofs.YtknflipongbngaaDoor
