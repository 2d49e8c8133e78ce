/- Texts of the proof, merged: W1, P13, W2, D8, W3, D10, W7, XB, P15, A1, A2, P19, L4, P20, P21, XCv, L5, P22, L6, L7, P23, L8, P24, L9, XIns, P25, W8, D11, W9, P26, L10, L11, P27, L12, L13, A3. -/
import Derived.Test.YtknflipongbngaaDoorMSpringExamples3
import Derived.Lib.Overlaps
import Derived.Lib.AppendZeros
/- The walks of functions. -/
namespace Go.Proofs.YtknflipongbngaaDoor
open Go.X Go.S Go.RowKit
theorem mk_173 : mapKB Tryd.prog 173 = true := by kernel_rfl
theorem cloneInts (l : List Int) (ao : Option Addr) (c : Nat) (hl : l.length ≤ 1000000) (w : World) (h : RowsAt w ao 1 (ones l)) :
    CallsR Tryd.prog 87 [.slice ao l.length c] w (IsI l) := by
  refine CallsR.of_SX (n := 8) (rs := [.tmp 2]) Tryd.func87 rfl rfl rfl rfl ?_
  show SX _ _ _ ⟨[(0, .slice ao l.length c)], [], []⟩
  refine SX.seq ?_
  refine SX.region ?_
  refine SXL.assign rfl ?_
  refine SXL.nil ?_
  refine thenQ.normal ?_
  refine SX.seq ?_
  refine SX.seq ?_
  refine SX.region ?_
  refine SXL.move rfl ?_
  refine SXL.eqlS is_35 rfl rfl ?_
  refine SXL.nil ?_
  refine thenQ.normal ?_
  refine SX.condP rfl (fun c4 => ?_) (fun c4 => ?_)
  · refine SX.seq ?_
    subst c4
    refine SX.region ?_
    refine SXL.assign rfl ?_
    refine SXL.nil ?_
    refine thenQ.normal ?_
    refine SX.ret ?_
    refine thenQ.ret ?_
    refine retQ.dead [Sl.nil.ent 3 []] rfl ?_
    refine retQ.one (ResAt.tmp rfl) ?_
    have hl0 : l = [] := by
      rcases h with h | ⟨b, o, h, _⟩
      · simpa [ones] using h
      · cases h
    subst hl0
    exact ⟨Sl.nil, .none _, rfl, rfl⟩
  · refine SX.skip ?_
    refine thenQ.normal ?_
    refine SX.seq ?_
    refine SX.region ?_
    refine SXL.buildSlice0 et_35 ?_; intro b0
    refine SXL.move rfl ?_
    refine SXL.appendE (some b0) ap_35 rfl rfl (onesSrc h _) (by simp) (ints_isOne _) ⟨by simp only [maxLen]; omega, by omega⟩ ?_; intro r_7 o_7
    refine SXL.assign rfl ?_
    refine SXL.nil ?_
    refine thenQ.normal ?_
    refine SX.ret ?_
    refine retQ.sel [1] rfl rfl ?_
    refine retQ.one (ResAt.tmp rfl) ?_
    exact ⟨r_7, o_7, rfl, rfl⟩
theorem cloneLines (s : Sp) (ao : Option Addr) (c : Nat) (hl : s.book.length ≤ 1000000) (w : World) (h : RowsAt w ao 5 (s.book.map Ln.cells)) :
    CallsR Tryd.prog 122 [.slice ao s.book.length c] w (IsB s) := by
  refine CallsR.of_SX (n := 8) (rs := [.tmp 2]) Tryd.func122 rfl rfl rfl rfl ?_
  show SX _ _ _ ⟨[(0, .slice ao s.book.length c)], [], []⟩
  refine SX.seq ?_
  refine SX.region ?_
  refine SXL.assign rfl ?_
  refine SXL.nil ?_
  refine thenQ.normal ?_
  refine SX.seq ?_
  refine SX.seq ?_
  refine SX.region ?_
  refine SXL.move rfl ?_
  refine SXL.eqlS is_24 rfl rfl ?_
  refine SXL.nil ?_
  refine thenQ.normal ?_
  refine SX.condP rfl (fun c4 => ?_) (fun c4 => ?_)
  · refine SX.seq ?_
    subst c4
    refine SX.region ?_
    refine SXL.assign rfl ?_
    refine SXL.nil ?_
    refine thenQ.normal ?_
    refine SX.ret ?_
    refine thenQ.ret ?_
    refine retQ.dead [Sl.nil.ent 61 []] rfl ?_
    refine retQ.one (ResAt.tmp rfl) ?_
    have hl0 : s.book = [] := by
      rcases h with h | ⟨b, o, h, _⟩
      · simpa using h
      · cases h
    have e : bookC s = [] := by rw [bookC, hl0]; rfl
    exact ⟨Sl.nil, by rw [e, hl0]; exact .none _, by rw [hl0]; rfl, by rw [e]⟩
  · refine SX.skip ?_
    refine thenQ.normal ?_
    refine SX.seq ?_
    refine SX.region ?_
    refine SXL.buildSlice0 et_24 ?_; intro b0
    refine SXL.move rfl ?_
    refine SXL.appendE (some b0) ap_24 rfl rfl (linesSrc h _) (bookC_len s) (bookC_one s) ⟨by simp only [maxLen]; omega, by omega⟩ ?_; intro r_7 o_7
    refine SXL.assign rfl ?_
    refine SXL.nil ?_
    refine thenQ.normal ?_
    refine SX.ret ?_
    refine retQ.sel [1] rfl rfl ?_
    refine retQ.one (ResAt.tmp rfl) ?_
    exact ⟨r_7, o_7, rfl, rfl⟩
theorem numbers_any (s : Sp) (bo ro : Option Addr) (bc rc : Nat) (_hb : s.book.length ≤ 1000000) (hr : s.reads.length ≤ 1000000) (w : World) (hs : SpAt w s bo ro) :
    CallsR Tryd.prog 83 [.agg ⟨[.int .i64 s.weeks, .int .i64 s.most, .int .i64 s.fall, .int .i64 s.a0, .int .i64 s.a1, .int .i64 s.w0, .int .i64 s.w1, (.slice bo s.book.length bc), (.slice ro s.reads.length rc)]⟩] w (IsI (numsL s)) := by
  refine CallsR.of_SX (n := 20) (rs := [.tmp 2]) Tryd.func83 rfl rfl rfl rfl ?_
  show SX _ _ _ ⟨[(0, .agg ⟨[.int .i64 s.weeks, .int .i64 s.most, .int .i64 s.fall, .int .i64 s.a0, .int .i64 s.a1, .int .i64 s.w0, .int .i64 s.w1, (.slice bo s.book.length bc), (.slice ro s.reads.length rc)]⟩)], [], []⟩
  refine SX.seq ?_
  refine SX.region ?_
  refine SXL.box rfl rfl ?_; intro b0
  refine SXL.assign rfl ?_
  refine SXL.nil ?_
  refine thenQ.normal ?_
  refine SX.seq ?_
  refine SX.pad (Sl.nil.ent 3 []) rfl ?_
  refine SX.region ?_
  refine SXL.assign rfl ?_
  refine SXL.nil ?_
  refine thenQ.normal ?_
  refine SX.seq ?_
  refine SX.seq ?_
  refine SX.region ?_
  refine SXL.fieldAddr fp_27_6 rfl ?_
  refine SXL.load1o 0 sh_25 rfl rfl rfl ?_
  refine SXL.len is_25 rfl ?_
  refine SXL.move rfl ?_
  refine SXL.nil ?_
  refine thenQ.normal ?_
  refine SX.block ?_
  refine SX.loopG (α := Nat × Sl × Nat × List Value) [2, 7, 8] rfl (fun ⟨k, q, n, c⟩ => [(9, .int .i64 ((k : Int))), (3, q.val n)]) (fun ⟨k, q, n, c⟩ => [(1, q.ent 3 c)]) (fun ⟨k, q, n, c⟩ => k ≤ s.reads.length ∧ q.Ok n 1 c ∧ c = ints ((s.reads.take k).map (·.num))) (fun ⟨k, q, n, c⟩ => s.reads.length - k) (0, Sl.nil, 0, []) ⟨Nat.zero_le _, .none _, rfl⟩ ⟨rfl, rfl, trivial⟩ rfl ?_
  rintro ⟨k, q, n, c⟩ ⟨hkl, ho, rfl⟩
  have hn1 := Ok.n ho
  rw [List.length_map, List.length_take] at hn1
  refine SX.seq ?_
  refine SX.region ?_
  refine SXL.lss rfl rfl ?_
  refine SXL.nil ?_
  refine thenQ.normal ?_
  refine SX.seq ?_
  refine SX.condP rfl (fun c1 => ?_) (fun c1 => ?_)
  · refine SX.skip ?_
    refine thenQ.normal ?_
    refine SX.seq ?_
    refine SX.block ?_
    refine SX.seq ?_
    have hk : k < s.reads.length := by omega
    obtain ⟨b, o, ha, hm⟩ := hs.readD hk
    refine SX.region ?_
    refine SXL.indexR el_25 rfl rfl ha (by omega) ?_
    refine SXL.loadN sh_54 rfl (hm _) rfl ?_
    refine SXL.alloc zp_54 ?_; intro b2
    refine SXL.store 2 sz_54 rfl rfl rfl rfl rfl rfl ?_
    refine SXL.nil ?_
    refine thenQ.normal ?_
    refine SX.region ?_
    refine SXL.move rfl ?_
    refine SXL.fieldAddr fp_54_0 rfl ?_
    refine SXL.load1o 2 sh_3 rfl rfl rfl ?_
    refine SXL.buildSlice et_35 zp_3 rfl rfl rfl rfl ?_; intro b3
    refine SXL.append 1 ap_35 rfl rfl ho rfl (.inr ⟨_, _, rfl, Mem.own (i := 3) rfl (takeAt_all _)⟩) rfl rfl ⟨by simp only [maxLen]; omega, by omega⟩ ?_; intro r_17 o_17
    refine SXL.assign rfl ?_
    refine SXL.nil ?_
    refine blockQ.normal ?_
    refine thenQ.normal ?_
    refine SX.region ?_
    refine SXL.add rfl rfl (by omega) ?_
    refine SXL.move rfl ?_
    refine SXL.nil ?_
    refine thenQ.normal ?_
    refine ⟨(k + 1, _, _, _), Meets.mk _ ⟨rfl, rfl, trivial⟩ ⟨rfl, rfl, rfl, trivial⟩ rfl, ⟨by omega, o_17, by rw [take_snoc hk]; simp [ints]⟩, (show s.reads.length - (k + 1) < s.reads.length - k by omega)⟩
  · refine SX.exit ?_
    refine thenQ.exit ?_
    refine thenQ.exit ?_
    refine blockQ.exit ?_
    refine thenQ.normal ?_
    refine SX.seq ?_
    obtain rfl : k = s.reads.length := by omega
    refine SX.region ?_
    refine SXL.move rfl ?_
    refine SXL.assign rfl ?_
    refine SXL.nil ?_
    refine thenQ.normal ?_
    refine SX.ret ?_
    refine retQ.sel [1] rfl rfl ?_
    refine retQ.one (ResAt.tmp rfl) ?_
    have e2 := Ok.n ho; subst e2; rw [List.take_length] at ho ⊢; exact ⟨q, ho, rfl, rfl⟩
set_option maxHeartbeats 2000000 in
theorem swithout_any (s : Sp) (bo ro : Option Addr) (bc rc : Nat) (ns : List Int) (ao : Option Addr) (nc : Nat) (hn : ns.length ≤ 1000000) (hb : s.book.length ≤ 1000000) (hr : s.reads.length ≤ 1000000) (hd : (numsL s).Nodup) (w : World) (hs : SpAt w s bo ro) (ha0 : RowsAt w ao 1 (ones ns)) :
    CallsR Tryd.prog 84 [.agg ⟨[.int .i64 s.weeks, .int .i64 s.most, .int .i64 s.fall, .int .i64 s.a0, .int .i64 s.a1, .int .i64 s.w0, .int .i64 s.w1, (.slice bo s.book.length bc), (.slice ro s.reads.length rc)]⟩, .slice ao ns.length nc] w (SpR (wo s ns)) := by
  refine CallsR.of_SX (n := 47) (rs := [.cell 4 27]) Tryd.func84 rfl rfl rfl rfl ?_
  show SX _ _ _ ⟨[(0, .agg ⟨[.int .i64 s.weeks, .int .i64 s.most, .int .i64 s.fall, .int .i64 s.a0, .int .i64 s.a1, .int .i64 s.w0, .int .i64 s.w1, (.slice bo s.book.length bc), (.slice ro s.reads.length rc)]⟩), (1, .slice ao ns.length nc)], [], []⟩
  refine SX.seq ?_
  refine SX.region ?_
  refine SXL.box rfl rfl ?_; intro b0
  refine SXL.alloc zp_27 ?_; intro b1
  refine SXL.nil ?_
  refine thenQ.normal ?_
  refine SX.seq ?_
  refine SX.region ?_
  refine SXL.makeMap ?_; intro b2
  refine SXL.assign rfl ?_
  refine SXL.nil ?_
  refine thenQ.normal ?_
  refine SX.seq ?_
  refine SX.seq ?_
  refine SX.region ?_
  refine SXL.move rfl ?_
  refine SXL.len is_35 rfl ?_
  refine SXL.move rfl ?_
  refine SXL.nil ?_
  refine thenQ.normal ?_
  refine SX.block ?_
  refine SX.loopG (α := Nat × List (Int × Nat) × Nat) [2, 4, 5, 12, 13] rfl (fun ⟨j, ks, mc⟩ => [(14, .int .i64 ((j : Int)))]) (fun ⟨j, ks, mc⟩ => [(2, (b2, .map ⟨mkMap ks⟩ mc))]) (fun ⟨j, ks, mc⟩ => j ≤ ns.length ∧ (mkeys ks).Nodup ∧ ∀ x, x ∈ mkeys ks ↔ x ∈ ns.take j) (fun ⟨j, ks, mc⟩ => ns.length - j) (0, [], 0) ⟨Nat.zero_le _, List.nodup_nil, fun x => by simp [mkeys]⟩ ⟨rfl, trivial⟩ rfl ?_
  rintro ⟨j, ks, mc⟩ ⟨hj, hnd, hks⟩
  refine SX.seq ?_
  refine SX.region ?_
  refine SXL.lss rfl rfl ?_
  refine SXL.nil ?_
  refine thenQ.normal ?_
  refine SX.seq ?_
  refine SX.condP rfl (fun c1 => ?_) (fun c1 => ?_)
  · refine SX.skip ?_
    refine thenQ.normal ?_
    refine SX.seq ?_
    refine SX.block ?_
    refine SX.seq ?_
    have hjl : j < ns.length := by omega
    obtain ⟨b3, o3, ha2, hm2⟩ := oneI ha0 hjl
    refine SX.region ?_
    refine SXL.indexR el_35 rfl rfl ha2 (by omega) ?_
    refine SXL.load1 sh_3 rfl (hm2 _) ?_
    refine SXL.assign rfl ?_
    refine SXL.nil ?_
    refine thenQ.normal ?_
    refine SX.region ?_
    refine SXL.move rfl ?_
    refine SXL.move rfl ?_
    refine SXL.mapPut 2 mk_173 rfl rfl rfl rfl ?_
    refine SXL.nil ?_
    refine blockQ.normal ?_
    refine thenQ.normal ?_
    refine SX.region ?_
    refine SXL.add rfl rfl (by omega) ?_
    refine SXL.move rfl ?_
    refine SXL.nil ?_
    refine thenQ.normal ?_
    refine ⟨(j + 1, _, _), Meets.mk _ ⟨rfl, trivial⟩ ⟨rfl, rfl, rfl, rfl, rfl, trivial⟩ rfl, ⟨by omega, mput_nodup hnd, fun x => by rw [mput_keys, hks, mem_take_succ hjl, or_comm, eq_comm]⟩, (show ns.length - (j + 1) < ns.length - j by omega)⟩
  · refine SX.exit ?_
    refine thenQ.exit ?_
    refine thenQ.exit ?_
    refine blockQ.exit ?_
    refine thenQ.normal ?_
    refine SX.seq ?_
    obtain rfl : j = ns.length := by omega
    refine SX.region ?_
    refine SXL.fieldAddr fp_27_5 rfl ?_
    refine SXL.load1o 0 sh_24 rfl rfl rfl ?_
    refine SXL.callF (IsB s) fn_122 rfl (fun w hI => cloneLines s bo bc hb w (hs.inv hI).book) ?_; rintro _ _ ⟨r1, o1, rfl, rfl⟩
    refine SXL.fieldAddr fp_27_5 rfl ?_
    refine SXL.store 0 sz_24 rfl rfl rfl rfl rfl rfl ?_
    refine SXL.nil ?_
    refine thenQ.normal ?_
    refine SX.seq ?_
    refine SX.pad (Sl.nil.ent 54 []) rfl ?_
    refine SX.region ?_
    refine SXL.assign rfl ?_
    refine SXL.nil ?_
    refine thenQ.normal ?_
    refine SX.seq ?_
    refine SX.seq ?_
    refine SX.region ?_
    refine SXL.fieldAddr fp_27_6 rfl ?_
    refine SXL.load1o 0 sh_25 rfl rfl rfl ?_
    refine SXL.len is_25 rfl ?_
    refine SXL.move rfl ?_
    refine SXL.nil ?_
    refine thenQ.normal ?_
    refine SX.block ?_
    refine SX.loopG (α := Nat × List (Int × Nat) × Nat × Sl × Nat × List Value) [2, 4, 5, 26, 27] rfl (fun ⟨k, ks, mc, q, n, c⟩ => [(28, .int .i64 ((k : Int))), (8, q.val n)]) (fun ⟨k, ks, mc, q, n, c⟩ => [(2, (b2, .map ⟨mkMap ks⟩ mc)), (4, q.ent 54 c)]) (fun ⟨k, ks, mc, q, n, c⟩ => k ≤ s.reads.length ∧ (mkeys ks).Nodup ∧ (∀ x, x ∈ mkeys ks ↔ x ∈ ns ∧ ∀ i, i < k → (s.reads.getD i default).num ≠ x) ∧ q.Ok n 5 c ∧ c = (rdC (keepR (s.reads.take k) ns)) ∧ n = (keepR (s.reads.take k) ns).length) (fun ⟨k, ks, mc, q, n, c⟩ => s.reads.length - k) (0, ks, mc, Sl.nil, 0, []) ⟨Nat.zero_le _, hnd, fun x => by rw [hks, List.take_length]; exact ⟨fun h => ⟨h, fun i hi => absurd hi (Nat.not_lt_zero _)⟩, fun h => h.1⟩, .none _, rfl, rfl⟩ ⟨rfl, rfl, trivial⟩ rfl ?_
    rintro ⟨k, ks2, mc2, q, n, c⟩ ⟨hkl, hnd2, hks2, ho, rfl, hn2⟩
    have hkl2 := keepR_len (s.reads.take k) ns
    rw [List.length_take] at hkl2
    refine SX.seq ?_
    refine SX.region ?_
    refine SXL.lss rfl rfl ?_
    refine SXL.nil ?_
    refine thenQ.normal ?_
    refine SX.seq ?_
    refine SX.condP rfl (fun c2 => ?_) (fun c2 => ?_)
    · refine SX.skip ?_
      refine thenQ.normal ?_
      refine SX.seq ?_
      refine SX.block ?_
      refine SX.seq ?_
      have hk : k < s.reads.length := by omega
      obtain ⟨b, o, ha, hm⟩ := hs.readD hk
      refine SX.region ?_
      refine SXL.indexR el_25 rfl rfl ha (by omega) ?_
      refine SXL.loadN sh_54 rfl (hm _) rfl ?_
      refine SXL.alloc zp_54 ?_; intro b5
      refine SXL.store 5 sz_54 rfl rfl rfl rfl rfl rfl ?_
      refine SXL.nil ?_
      refine thenQ.normal ?_
      refine SX.seq ?_
      refine SX.seq ?_
      refine SX.region ?_
      refine SXL.move rfl ?_
      refine SXL.fieldAddr fp_54_0 rfl ?_
      refine SXL.load1o 5 sh_3 rfl rfl rfl ?_
      refine SXL.mapGet 2 mk_173 rfl rfl rfl ?_
      refine SXL.nil ?_
      refine thenQ.normal ?_
      refine SX.condP rfl (fun c35 => ?_) (fun c35 => ?_)
      · refine SX.seq ?_
        refine SX.region ?_
        refine SXL.move rfl ?_
        refine SXL.fieldAddr fp_54_0 rfl ?_
        refine SXL.load1o 5 sh_3 rfl rfl rfl ?_
        refine SXL.mapDel 2 mk_173 rfl rfl rfl rfl ?_
        refine SXL.nil ?_
        refine thenQ.normal ?_
        refine SX.exit ?_
        refine thenQ.exit ?_
        refine blockQ.exit ?_
        refine thenQ.normal ?_
        refine SX.region ?_
        refine SXL.add rfl rfl (by omega) ?_
        refine SXL.move rfl ?_
        refine SXL.nil ?_
        refine thenQ.normal ?_
        refine ⟨(k + 1, _, _, _, _, _), Meets.mk _ ⟨rfl, rfl, trivial⟩ ⟨rfl, rfl, rfl, rfl, rfl, trivial⟩ rfl, ?_, (show s.reads.length - (k + 1) < s.reads.length - k by omega)⟩
        have hin := gone_iff hd hk hks2
        first
          | exact ⟨by omega, mdel_nodup hnd2, gone_del hnd2 hk hks2, ho, by rw [keepR_no hk (hin.1 c35)], by rw [keepR_no hk (hin.1 c35)]; exact hn2⟩
          | exact ⟨by omega, hnd2, gone_stay hk (fun h => c35 (hin.2 h)) hks2, o_42, by rw [keepR_yes hk (fun h => c35 (hin.2 h))]; simp [rdC, Rd.cells], by rw [keepR_yes hk (fun h => c35 (hin.2 h))]; simp [hn2]⟩
      · refine SX.skip ?_
        refine thenQ.normal ?_
        refine SX.region ?_
        refine SXL.move rfl ?_
        refine SXL.loadNo 5 sh_54 rfl rfl rfl ?_
        refine SXL.buildSlice et_25 zp_54 rfl rfl rfl rfl ?_; intro b6
        refine SXL.append 4 ap_25 rfl rfl ho rfl (.inr ⟨_, _, rfl, Mem.own (i := 6) rfl (takeAt_all _)⟩) rfl rfl ⟨by simp only [maxLen]; omega, by omega⟩ ?_; intro r_42 o_42
        refine SXL.assign rfl ?_
        refine SXL.nil ?_
        refine blockQ.normal ?_
        refine thenQ.normal ?_
        refine SX.region ?_
        refine SXL.add rfl rfl (by omega) ?_
        refine SXL.move rfl ?_
        refine SXL.nil ?_
        refine thenQ.normal ?_
        refine ⟨(k + 1, _, _, _, _, _), Meets.mk _ ⟨rfl, rfl, trivial⟩ ⟨rfl, rfl, rfl, rfl, rfl, trivial⟩ rfl, ?_, (show s.reads.length - (k + 1) < s.reads.length - k by omega)⟩
        have hin := gone_iff hd hk hks2
        first
          | exact ⟨by omega, mdel_nodup hnd2, gone_del hnd2 hk hks2, ho, by rw [keepR_no hk (hin.1 c35)], by rw [keepR_no hk (hin.1 c35)]; exact hn2⟩
          | exact ⟨by omega, hnd2, gone_stay hk (fun h => c35 (hin.2 h)) hks2, o_42, by rw [keepR_yes hk (fun h => c35 (hin.2 h))]; simp [rdC, Rd.cells], by rw [keepR_yes hk (fun h => c35 (hin.2 h))]; simp [hn2]⟩
    · refine SX.exit ?_
      refine thenQ.exit ?_
      refine thenQ.exit ?_
      refine blockQ.exit ?_
      refine thenQ.normal ?_
      refine SX.seq ?_
      obtain rfl : k = s.reads.length := by omega
      refine SX.region ?_
      refine SXL.move rfl ?_
      refine SXL.fieldAddr fp_27_6 rfl ?_
      refine SXL.store 0 sz_25 rfl rfl rfl rfl rfl rfl ?_
      refine SXL.nil ?_
      refine thenQ.normal ?_
      refine SX.seq ?_
      refine SX.region ?_
      refine SXL.loadNo 0 sh_27 rfl rfl rfl ?_
      refine SXL.store 1 sz_27 rfl rfl rfl rfl rfl rfl ?_
      refine SXL.nil ?_
      refine thenQ.normal ?_
      refine SX.ret ?_
      refine retQ.sel [3, 4] rfl rfl ?_
      refine retQ.one (ResAt.cellNo 1 sh_27 rfl rfl rfl) ?_
      rw [List.take_length] at ho hn2; subst hn2; exact ⟨r1, q, o1, ho, rfl, by rw [List.take_length]; rfl⟩
end Go.Proofs.YtknflipongbngaaDoor

/- What a reading tells alone: the plain words. Nothing of Go stands here. -/
namespace Go.S
open Go.X (G)
def readE (s : Sp) (x : Rd) : Int := if ¬SpP s then 10 else if ¬RdP x s.weeks then 12 else if readsP s x = (1, 0) then 6 else 0
def readLo (s : Sp) (x : Rd) : Int := if readE s x = 0 then (readsP s x).1 else 0
def readHi (s : Sp) (x : Rd) : Int := if readE s x = 0 then (readsP s x).2 else 0
def rTo (s : Sp) (x : Rd) : Nat → Int × Int
  | 0 => (s.most + 1, -1)
  | k + 1 => if Right s x k then (min (rTo s x k).1 k, k) else rTo s x k
end Go.S

/- The walks of functions. -/
namespace Go.Proofs.YtknflipongbngaaDoor
open Go.X Go.S Go.RowKit
set_option maxHeartbeats 1000000 in
theorem sread_any (s : Sp) (bo ro : Option Addr) (bc rc : Nat) (x : Rd) (hb : s.book.length ≤ 1000000) (hr : s.reads.length ≤ 1000000) (w : World) (hg : Gl w) (hs : SpAt w s bo ro) :
    CallsR Tryd.prog 30 [.agg ⟨[.int .i64 s.weeks, .int .i64 s.most, .int .i64 s.fall, .int .i64 s.a0, .int .i64 s.a1, .int .i64 s.w0, .int .i64 s.w1, (.slice bo s.book.length bc), (.slice ro s.reads.length rc)]⟩, .agg ⟨x.cells⟩] w (fun v _ => v = .tuple ⟨[.agg ⟨[.int .i64 ((readLo s x)), .int .i64 ((readHi s x))]⟩, .int .i64 (readE s x)]⟩) := by
  refine CallsR.of_SX (n := 28) (rs := [.cell 4 23, .tmp 5]) Tryd.func30 rfl rfl rfl rfl ?_
  show SX _ _ _ ⟨[(0, .agg ⟨[.int .i64 s.weeks, .int .i64 s.most, .int .i64 s.fall, .int .i64 s.a0, .int .i64 s.a1, .int .i64 s.w0, .int .i64 s.w1, (.slice bo s.book.length bc), (.slice ro s.reads.length rc)]⟩), (1, .agg ⟨x.cells⟩)], [], []⟩
  refine SX.seq ?_
  refine SX.region ?_
  refine SXL.box rfl rfl ?_; intro b0
  refine SXL.box rfl rfl ?_; intro b1
  refine SXL.alloc zp_23 ?_; intro b2
  refine SXL.assign rfl ?_
  refine SXL.nil ?_
  refine thenQ.normal ?_
  refine SX.seq ?_
  refine SX.seq ?_
  refine SX.region ?_
  refine SXL.loadNo 0 sh_27 rfl rfl rfl ?_
  refine SXL.call1 (.int .i64 (if SpP s then 0 else 10)) fn_26 rfl (fun w hI => scheck_any s bo ro bc rc hb hr _ (hg.inv hI) (hs.inv hI)) ?_
  refine SXL.assign rfl ?_
  refine SXL.nil ?_
  refine thenQ.normal ?_
  refine SX.seq ?_
  refine SX.region ?_
  refine SXL.move rfl ?_
  refine SXL.neqI rfl rfl ?_
  refine SXL.nil ?_
  refine thenQ.normal ?_
  refine SX.condP rfl (fun c11 => ?_) (fun c11 => ?_)
  · refine SX.seq ?_
    have hv : ¬SpP s := fun h => c11 (by rw [if_pos h])
    refine SX.region ?_
    refine SXL.buildS pl_23 zp_23 rfl rfl ?_
    refine SXL.move rfl ?_
    refine SXL.store 2 sz_23 rfl rfl rfl rfl rfl rfl ?_
    refine SXL.assign rfl ?_
    refine SXL.nil ?_
    refine thenQ.normal ?_
    refine SX.ret ?_
    refine thenQ.ret ?_
    refine retQ.two (ResAt.cellNo 2 sh_23 rfl rfl rfl) (ResAt.tmp rfl) ?_
    have he : readE s x = 10 := if_pos hv
    rw [if_neg hv]
    rw [readLo, readHi, if_neg (by rw [he]; omega), if_neg (by rw [he]; omega), he]
  · refine SX.skip ?_
    refine thenQ.normal ?_
    refine SX.seq ?_
    refine SX.seq ?_
    have hv : SpP s := Decidable.byContradiction fun h => c11 (by rw [if_neg h]; omega)
    have hH := hv.1
    unfold HeadP at hH
    refine SX.region ?_
    refine SXL.loadNo 1 sh_54 rfl rfl rfl ?_
    refine SXL.fieldAddr fp_27_0 rfl ?_
    refine SXL.load1o 0 sh_3 rfl rfl rfl ?_
    refine SXL.call1 (.bool (decide (RdP x s.weeks))) fn_80 rfl (fun w hI => readable_any x s.weeks ⟨by omega, by omega⟩ _) ?_
    refine SXL.not rfl ?_
    refine SXL.nil ?_
    refine thenQ.normal ?_
    refine SX.condP rfl (fun c18 => ?_) (fun c18 => ?_)
    · refine SX.seq ?_
      refine SX.region ?_
      refine SXL.buildS pl_23 zp_23 rfl rfl ?_
      refine SXL.store 2 sz_23 rfl rfl rfl rfl rfl rfl ?_
      refine SXL.assign rfl ?_
      refine SXL.nil ?_
      refine thenQ.normal ?_
      refine SX.ret ?_
      refine thenQ.ret ?_
      refine retQ.two (ResAt.cellNo 2 sh_23 rfl rfl rfl) (ResAt.tmp rfl) ?_
      have he : readE s x = 12 := by rw [readE, if_neg (by simpa using hv), if_pos c18]
      rw [readLo, readHi, if_neg (by rw [he]; omega), if_neg (by rw [he]; omega), he]
    · refine SX.skip ?_
      refine thenQ.normal ?_
      refine SX.seq ?_
      have hx : RdP x s.weeks := Decidable.not_not.1 c18
      refine SX.region ?_
      refine SXL.loadNo 0 sh_27 rfl rfl rfl ?_
      refine SXL.loadNo 1 sh_54 rfl rfl rfl ?_
      refine SXL.call1 (spanV (readsP s x)) fn_81 rfl (fun w hI => reads_any s bo ro bc rc x (by omega) (by omega) (by omega) (by omega) (by omega) _ (hg.inv hI)) ?_
      refine SXL.alloc zp_23 ?_; intro b3
      refine SXL.store 3 sz_23 rfl rfl rfl rfl rfl rfl ?_
      refine SXL.nil ?_
      refine thenQ.normal ?_
      refine SX.seq ?_
      refine SX.seq ?_
      refine SX.region ?_
      refine SXL.loadNo 3 sh_23 rfl rfl rfl ?_
      refine SXL.loadN sh_23 rfl (hg.memN _) rfl ?_
      refine SXL.eqlV (p := [(readsP s x).1, (readsP s x).2] = [1, 0]) (u := .agg ⟨ints ([(readsP s x).1, (readsP s x).2])⟩) (v := .agg ⟨ints ([1, 0])⟩) rfl rfl (run_eql_ints eq_23 eg_23 sh_23 rfl rfl) ?_
      refine SXL.nil ?_
      refine thenQ.normal ?_
      refine SX.condP rfl (fun c25 => ?_) (fun c25 => ?_)
      · refine SX.seq ?_
        refine SX.region ?_
        refine SXL.buildS pl_23 zp_23 rfl rfl ?_
        refine SXL.store 2 sz_23 rfl rfl rfl rfl rfl rfl ?_
        refine SXL.assign rfl ?_
        refine SXL.nil ?_
        refine thenQ.normal ?_
        refine SX.ret ?_
        refine thenQ.ret ?_
        refine retQ.two (ResAt.cellNo 2 sh_23 rfl rfl rfl) (ResAt.tmp rfl) ?_
        have hpe : readsP s x = (1, 0) := by simpa [Prod.ext_iff] using c25
        have he : readE s x = 6 := by rw [readE, if_neg (by simpa using hv), if_neg (not_not_intro hx), if_pos hpe]
        rw [readLo, readHi, if_neg (by rw [he]; omega), if_neg (by rw [he]; omega), he]
      · refine SX.skip ?_
        refine thenQ.normal ?_
        refine SX.seq ?_
        refine SX.region ?_
        refine SXL.loadNo 3 sh_23 rfl rfl rfl ?_
        refine SXL.store 2 sz_23 rfl rfl rfl rfl rfl rfl ?_
        refine SXL.assign rfl ?_
        refine SXL.nil ?_
        refine thenQ.normal ?_
        refine SX.ret ?_
        refine retQ.two (ResAt.cellNo 2 sh_23 rfl rfl rfl) (ResAt.tmp rfl) ?_
        have hne : readsP s x ≠ (1, 0) := fun e => c25 (by rw [e])
        have he : readE s x = 0 := by rw [readE, if_neg (by simpa using hv), if_neg (not_not_intro hx), if_neg hne]
        rw [readLo, readHi, if_pos he, if_pos he, he]
set_option maxHeartbeats 2000000 in
theorem srests_any (s : Sp) (bo ro : Option Addr) (bc rc : Nat) (week : Int) (hb : s.book.length ≤ 1000000) (hr : s.reads.length ≤ 1000000) (w : World) (hg : Gl w) (hs : SpAt w s bo ro) :
    CallsR Tryd.prog 32 [.agg ⟨[.int .i64 s.weeks, .int .i64 s.most, .int .i64 s.fall, .int .i64 s.a0, .int .i64 s.a1, .int .i64 s.w0, .int .i64 s.w1, (.slice bo s.book.length bc), (.slice ro s.reads.length rc)]⟩, .int .i64 week] w (IsR2 (restsL s week) (toldE s week)) := by
  refine CallsR.of_SX (n := 47) (rs := [.tmp 4, .tmp 5]) Tryd.func32 rfl rfl rfl rfl ?_
  show SX _ _ _ ⟨[(0, .agg ⟨[.int .i64 s.weeks, .int .i64 s.most, .int .i64 s.fall, .int .i64 s.a0, .int .i64 s.a1, .int .i64 s.w0, .int .i64 s.w1, (.slice bo s.book.length bc), (.slice ro s.reads.length rc)]⟩), (1, .int .i64 week)], [], []⟩
  refine SX.seq ?_
  refine SX.region ?_
  refine SXL.box rfl rfl ?_; intro b0
  refine SXL.assign rfl ?_
  refine SXL.assign rfl ?_
  refine SXL.nil ?_
  refine thenQ.normal ?_
  refine SX.seq ?_
  refine SX.region ?_
  refine SXL.loadNo 0 sh_27 rfl rfl rfl ?_
  refine SXL.move rfl ?_
  refine SXL.call1 (.tuple ⟨[.agg ⟨[.int .i64 ((givesLo s week)), .int .i64 ((givesHi s week))]⟩, .int .i64 (toldE s week)]⟩) fn_22 rfl (fun w hI => sgives_any s bo ro bc rc week hb hr _ (hg.inv hI) (hs.inv hI)) ?_
  refine SXL.move rfl ?_
  refine SXL.extract rfl rfl ?_
  refine SXL.extract rfl rfl ?_
  refine SXL.alloc zp_23 ?_; intro b1
  refine SXL.store 1 sz_23 rfl rfl rfl rfl rfl rfl ?_
  refine SXL.assign rfl ?_
  refine SXL.nil ?_
  refine thenQ.normal ?_
  refine SX.seq ?_
  refine SX.seq ?_
  refine SX.region ?_
  refine SXL.move rfl ?_
  refine SXL.neqI rfl rfl ?_
  refine SXL.nil ?_
  refine thenQ.normal ?_
  refine SX.condP rfl (fun c20 => ?_) (fun c20 => ?_)
  · refine SX.seq ?_
    refine SX.region ?_
    refine SXL.move rfl ?_
    refine SXL.assign rfl ?_
    refine SXL.assign rfl ?_
    refine SXL.nil ?_
    refine thenQ.normal ?_
    refine SX.ret ?_
    refine thenQ.ret ?_
    refine retQ.dead [Sl.nil.ent 3 []] rfl ?_
    refine retQ.two (ResAt.tmp rfl) (ResAt.tmp rfl) ?_
    have hL : restsL s week = [] := if_neg c20
    exact ⟨Sl.nil, by rw [hL]; exact .none _, by rw [hL]; rfl, by rw [hL]; rfl⟩
  · refine SX.skip ?_
    refine thenQ.normal ?_
    refine SX.seq ?_
    have h0 : toldE s week = 0 := Decidable.not_not.1 c20
    obtain ⟨hv, hwk, ht⟩ := toldE_valid h0
    have hH := hv.1
    unfold HeadP at hH
    refine SX.region ?_
    refine SXL.assign rfl ?_
    refine SXL.nil ?_
    refine thenQ.normal ?_
    refine SX.seq ?_
    refine SX.seq ?_
    refine SX.pad (Sl.nil.ent 3 []) rfl ?_
    refine SX.region ?_
    refine SXL.loadNo 0 sh_27 rfl rfl rfl ?_
    refine SXL.callF (IsI (numsL s)) fn_83 rfl (fun w hI => numbers_any s bo ro bc rc hb hr w (hs.inv hI)) ?_; rintro _ _ ⟨q0, o0, rfl, rfl⟩
    refine SXL.len is_35 rfl ?_
    refine SXL.move rfl ?_
    refine SXL.nil ?_
    refine thenQ.normal ?_
    refine SX.block ?_
    refine SX.loopG (α := Nat × Sl × Nat × List Value) [1, 2, 4, 5, 6, 23, 24] rfl (fun ⟨k, q, n, c⟩ => [(25, .int .i64 ((k : Int))), (8, q.val n)]) (fun ⟨k, q, n, c⟩ => [(2, q.ent 3 c)]) (fun ⟨k, q, n, c⟩ => k ≤ s.reads.length ∧ q.Ok n 1 c ∧ c = ints (restsTo s week k)) (fun ⟨k, q, n, c⟩ => s.reads.length - k) (0, Sl.nil, 0, []) ⟨Nat.zero_le _, .none _, rfl⟩ ⟨rfl, rfl, trivial⟩ rfl ?_
    rintro ⟨k, q, n, c⟩ ⟨hkl, ho, rfl⟩
    have hn1 := Ok.n ho
    have hrl := restsTo_len s week k
    refine SX.seq ?_
    refine SX.region ?_
    refine SXL.lss rfl rfl ?_
    refine SXL.nil ?_
    refine thenQ.normal ?_
    refine SX.seq ?_
    refine SX.condP rfl (fun c2 => ?_) (fun c2 => ?_)
    · refine SX.skip ?_
      refine thenQ.normal ?_
      refine SX.seq ?_
      refine SX.block ?_
      refine SX.seq ?_
      have hnl := length_numsL s
      have hk : k < s.reads.length := by omega
      refine SX.region ?_
      refine SXL.indexSl 3 el_35 rfl rfl (by omega) rfl o0 ?_; intro b9 hb9
      refine SXL.loadSl1 3 (v := .int .i64 (s.reads.getD k default).num) sh_3 rfl hb9 rfl o0 (by simp [ints, numsL, hk]) ?_
      refine SXL.assign rfl ?_
      refine SXL.nil ?_
      refine thenQ.normal ?_
      refine SX.seq ?_
      refine SX.region ?_
      refine SXL.loadNo 0 sh_27 rfl rfl rfl ?_
      refine SXL.move rfl ?_
      refine SXL.buildSlice et_35 zp_3 rfl rfl rfl rfl ?_; intro b4
      refine SXL.callF (SpR (wo s [(s.reads.getD k default).num])) fn_84 rfl (fun w hI => swithout_any s bo ro bc rc [(s.reads.getD k default).num] (some ⟨b4, 0, none⟩) 1 (by simp) (by omega) (by omega) (nums_nodup hv.2.2) w (hs.inv hI) (ownOnes hI (i := 4) [(s.reads.getD k default).num] rfl)) ?_; rintro _ _ ⟨r1, r2, o1, o2, rfl, rfl⟩
      refine SXL.move rfl ?_
      refine SXL.call1 (.tuple ⟨[.agg ⟨[.int .i64 ((givesLo (wo s [(s.reads.getD k default).num]) week)), .int .i64 ((givesHi (wo s [(s.reads.getD k default).num]) week))]⟩, .int .i64 (toldE (wo s [(s.reads.getD k default).num]) week)]⟩) fn_22 rfl (fun w hI => sgives_any (wo s [(s.reads.getD k default).num]) r1.addr r2.addr r1.cap r2.cap week hb (by have := keepR_len s.reads [(s.reads.getD k default).num]; show (keepR _ _).length ≤ _; omega) _ (hg.inv hI) (spAtOwn hI o1 o2 (i := 5) (j := 6) rfl rfl)) ?_
      refine SXL.move rfl ?_
      refine SXL.extract rfl rfl ?_
      refine SXL.extract rfl rfl ?_
      refine SXL.alloc zp_23 ?_; intro b7
      refine SXL.store 7 sz_23 rfl rfl rfl rfl rfl rfl ?_
      refine SXL.assign rfl ?_
      refine SXL.nil ?_
      refine thenQ.normal ?_
      refine SX.seq ?_
      refine SX.region ?_
      refine SXL.loadNo 7 sh_23 rfl rfl rfl ?_
      refine SXL.loadNo 1 sh_23 rfl rfl rfl ?_
      refine SXL.neqV (p := gvL (wo s [(s.reads.getD k default).num]) week ≠ gvL s week) (u := .agg ⟨ints (gvL (wo s [(s.reads.getD k default).num]) week)⟩) (v := .agg ⟨ints (gvL s week)⟩) rfl rfl (run_neq_ints eq_23 eg_23 sh_23 rfl rfl) ?_
      refine SXL.nil ?_
      refine thenQ.normal ?_
      refine SX.condP rfl (fun c40 => ?_) (fun c40 => ?_)
      · refine SX.region ?_
        refine SXL.move rfl ?_
        refine SXL.move rfl ?_
        refine SXL.buildSlice et_35 zp_3 rfl rfl rfl rfl ?_; intro b8
        refine SXL.append 2 ap_35 rfl rfl ho rfl (.inr ⟨_, _, rfl, Mem.own (i := 8) rfl (takeAt_all _)⟩) rfl rfl ⟨by simp only [maxLen]; omega, by omega⟩ ?_; intro r_44 o_44
        refine SXL.assign rfl ?_
        refine SXL.nil ?_
        refine blockQ.normal ?_
        refine thenQ.normal ?_
        refine SX.region ?_
        refine SXL.add rfl rfl (by omega) ?_
        refine SXL.move rfl ?_
        refine SXL.nil ?_
        refine thenQ.normal ?_
        refine ⟨(k + 1, _, _, _), Meets.mk _ ⟨rfl, rfl, trivial⟩ ⟨rfl, rfl, rfl, rfl, rfl, rfl, rfl, trivial⟩ rfl, ?_, (show s.reads.length - (k + 1) < s.reads.length - k by omega)⟩
        first
          | exact ⟨by omega, o_44, by rw [restsTo_yes hk c40]; simp [ints]⟩
          | exact ⟨by omega, ho, by rw [restsTo_no hk (Decidable.not_not.1 c40)]⟩
      · refine SX.skip ?_
        refine blockQ.normal ?_
        refine thenQ.normal ?_
        refine SX.region ?_
        refine SXL.add rfl rfl (by omega) ?_
        refine SXL.move rfl ?_
        refine SXL.nil ?_
        refine thenQ.normal ?_
        refine ⟨(k + 1, _, _, _), Meets.mk _ ⟨rfl, rfl, trivial⟩ ⟨rfl, rfl, rfl, rfl, rfl, rfl, rfl, trivial⟩ rfl, ?_, (show s.reads.length - (k + 1) < s.reads.length - k by omega)⟩
        first
          | exact ⟨by omega, o_44, by rw [restsTo_yes hk c40]; simp [ints]⟩
          | exact ⟨by omega, ho, by rw [restsTo_no hk (Decidable.not_not.1 c40)]⟩
    · refine SX.exit ?_
      refine thenQ.exit ?_
      refine thenQ.exit ?_
      refine blockQ.exit ?_
      refine thenQ.normal ?_
      refine SX.seq ?_
      have hnl := length_numsL s
      obtain rfl : k = s.reads.length := by omega
      refine SX.region ?_
      refine SXL.move rfl ?_
      refine SXL.assign rfl ?_
      refine SXL.assign rfl ?_
      refine SXL.nil ?_
      refine thenQ.normal ?_
      refine SX.ret ?_
      refine retQ.sel [2] rfl rfl ?_
      refine retQ.two (ResAt.tmp rfl) (ResAt.tmp rfl) ?_
      have e2 := Ok.n ho; subst e2; have hL : restsL s week = restsTo s week s.reads.length := if_pos h0
      rw [h0]
      exact ⟨q, by rw [hL]; exact ho, by rw [hL], by rw [hL]⟩
end Go.Proofs.YtknflipongbngaaDoor

/- The readings that must be false: lists handed back. -/
namespace Go.S
open Go Go.X
/-- A list that is found, or none. -/
structure FrR (o : Option (List Int)) (v : Value) (own : X.Own) : Prop where
  ex : ∃ r : Sl, r.Ok (o.getD []).length 1 (ints (o.getD [])) ∧ v = .tuple ⟨[r.val (o.getD []).length, .bool (decide (o.isSome = true))]⟩ ∧ own = [r.ent 3 (ints (o.getD []))]
theorem FrR.none {o : Option (List Int)} (h : o = .none) : FrR o (.tuple ⟨[.slice .none 0 0, .bool (decide False)]⟩) [Sl.nil.ent 3 []] := by
  subst h
  exact ⟨Sl.nil, Sl.Ok.none _, by simp [Sl.val, Sl.nil, Sl.addr], rfl⟩
theorem FrR.some {o : Option (List Int)} {r : Sl} {l : List Int} {n : Nat} (h : o = .some l) (ho : r.Ok n 1 (ints l)) {p : Prop} [Decidable p] (hp : p) : FrR o (.tuple ⟨[r.val n, .bool (decide p)]⟩) [r.ent 3 (ints l)] := by
  subst h
  have e := Ok.n ho
  subst e
  exact ⟨r, ho, by simp [hp], rfl⟩
theorem RowsAt.cut1 {w : World} {ao : Option Addr} {l : List Int} (h : RowsAt w ao 1 (ones l)) {i c : Nat} (hc : l.length ≤ c) : RowsAt w (cutAddr ao i c 1) 1 (ones (l.drop i)) := by
  by_cases hi : l.length ≤ i
  · left
    simp [ones, List.drop_eq_nil_of_le hi]
  · rcases h with h | ⟨b, o, rfl, h2⟩
    · have hl : l = [] := by simpa [ones] using h
      simp [hl] at hi
    · right
      unfold cutAddr
      rw [if_neg (by omega)]
      refine ⟨b, o + i * 1, by simp [addr_add], fun k r hr j u hj => ?_⟩
      have hr' : (ones l)[i + k]? = .some r := by
        rw [← hr]
        simp [ones]
      have := h2 (i + k) r hr' j u hj
      rwa [show o + (i + k) * 1 + j = o + i * 1 + k * 1 + j by omega] at this
theorem _root_.Go.X.CallsR.own0 {P : Program} {f : FuncId} {args : List Value} {w : World} {S : Value → Prop} {R : Value → X.Own → Prop} (h : CallsR P f args w fun v _ => S v) (hr : ∀ v, S v → R v [Sl.nil.ent 3 []]) : CallsR P f args w R :=
  Calls.mono h fun _ _ ⟨v, _, h1, h2, h3⟩ => ⟨v, [Sl.nil.ent 3 []], h1, (h2.weaken (List.nil_sublist _)).pad (p := Sl.nil.ent 3 []) rfl, hr v h3⟩
theorem wrongF_at {s : Sp} {m : Nat} (hm : m < 3) (hb : ∀ k, k < m → struckP s k 0 [] = .none) {r : List Int} (h : struckP s m 0 [] = .some r) : wrongF s = .some r := by
  match m, hm with
  | 0, _ => simp [wrongF, h]
  | 1, _ => simp [wrongF, hb 0 (by omega), h]
  | 2, _ => simp [wrongF, hb 0 (by omega), hb 1 (by omega), h]
theorem wrongF_no {s : Sp} (hb : ∀ k, k < 3 → struckP s k 0 [] = .none) : wrongF s = .none := by
  simp [wrongF, hb 0 (by omega), hb 1 (by omega), hb 2 (by omega)]
theorem isSome_false {o : Option (List Int)} (h : ¬(o.isSome = true)) : o = .none := by cases o <;> simp_all
theorem isSome_get {o : Option (List Int)} (h : o.isSome = true) : o = .some (o.getD []) := by cases o <;> simp_all
end Go.S

/- The walks of functions. -/
namespace Go.Proofs.YtknflipongbngaaDoor
open Go.X Go.S Go.RowKit
/-- What the closure that strikes finds: the spring, itself. -/
structure StAt (w : World) (s : Sp) (bo ro : Option Addr) (bc rc b3 b4 : Nat) : Prop where
  sp : ∀ j v, (sp9 s bo ro bc rc)[j]? = some v → w.cell? ⟨b3, 0 + j, none⟩ = some v
  fn : w.cell? ⟨b4, 0, none⟩ = some (.func (.func 86) ⟨[]⟩ ⟨[.pointer (some ⟨b3, 0, none⟩), .pointer (some ⟨b4, 0, none⟩)]⟩)
theorem StAt.inv {w0 w : World} {own : X.Own} {s : Sp} {bo ro : Option Addr} {bc rc b3 b4 : Nat} (h : StAt w0 s bo ro bc rc b3 b4) (hI : Inv w0 own w) : StAt w s bo ro bc rc b3 b4 :=
  ⟨fun j v hj => cell_keep (h.sp j v hj) hI.below, cell_keep h.fn hI.below⟩
theorem strike0 (s : Sp) (bo ro : Option Addr) (bc rc : Nat) (b3 b4 : Nat) (hv : SpP s) (i : Nat) (l : List Int) (ao : Option Addr) (n c : Nat) (hn : l.length = n) (hn2 : n + 0 ≤ 1000) (lao : Option Addr) (ln lc : Nat) (_hln : ln = s.reads.length - i) (_hlc : ln ≤ lc) (w : World) (hg : Gl w) (hs : SpAt w s bo ro) (hst0 : StAt w s bo ro bc rc b3 b4) (hl : RowsAt w ao 1 (ones l)) (_hll : RowsAt w lao 1 (ones ((numsL s).drop i))) :
    CallsR Tryd.prog 86 [.slice ao n c, .slice lao ln lc, .int .i64 0, .pointer (some ⟨b3, 0, none⟩), .pointer (some ⟨b4, 0, none⟩)] w (fun v _ => v = .tuple ⟨[.slice ao n c, .bool (decide (SpP (wo s l) ∧ TrueP (wo s l)))]⟩) := by
  have hH := hv.1
  unfold HeadP at hH
  refine CallsR.of_SX (n := 53) (rs := [.tmp 8, .tmp 9]) Tryd.func86 rfl rfl rfl rfl ?_
  show SX _ _ _ ⟨[(0, .slice ao n c), (1, .slice lao ln lc), (2, .int .i64 0), (3, .pointer (some ⟨b3, 0, none⟩)), (4, .pointer (some ⟨b4, 0, none⟩))], [], []⟩
  subst hn
  refine SX.seq ?_
  refine SX.region ?_
  refine SXL.assign rfl ?_
  refine SXL.assign rfl ?_
  refine SXL.nil ?_
  refine thenQ.normal ?_
  refine SX.seq ?_
  refine SX.seq ?_
  refine SX.region ?_
  refine SXL.move rfl ?_
  refine SXL.eqlI rfl rfl ?_
  refine SXL.nil ?_
  refine thenQ.normal ?_
  refine SX.condP rfl (fun c17 => ?_) (fun c17 => ?_)
  rotate_left
  · exfalso; exact c17 rfl
  refine SX.seq ?_
  refine SX.region ?_
  refine SXL.loadN sh_27 rfl (Mem.out hst0.sp) rfl ?_
  refine SXL.move rfl ?_
  refine SXL.callF (SpR (wo s l)) fn_84 rfl (fun w hI => swithout_any s bo ro bc rc l ao c (by omega) (by omega) (by omega) (nums_nodup hv.2.2) w (hs.inv hI) (hl.inv hI)) ?_; rintro _ _ ⟨r1, r2, o1, o2, rfl, rfl⟩
  refine SXL.call1 (.tuple ⟨[.bool (decide (SpP (wo s l) ∧ TrueP (wo s l))), .int .i64 (if SpP (wo s l) then 0 else 10)]⟩) fn_18 rfl (fun w hI => scan_any (wo s l) r1.addr r2.addr r1.cap r2.cap (show s.book.length ≤ _ by omega) (by have := keepR_len s.reads l; show (keepR _ _).length ≤ _; omega) _ (hg.inv hI) (spAtOwn hI o1 o2 (i := 0) (j := 1) rfl rfl)) ?_
  refine SXL.move rfl ?_
  refine SXL.extract rfl rfl ?_
  refine SXL.extract rfl rfl ?_
  refine SXL.assign rfl ?_
  refine SXL.assign rfl ?_
  refine SXL.nil ?_
  refine thenQ.normal ?_
  refine SX.seq ?_
  refine SX.region ?_
  refine SXL.move rfl ?_
  refine SXL.move rfl ?_
  refine SXL.assign rfl ?_
  refine SXL.assign rfl ?_
  refine SXL.nil ?_
  refine thenQ.normal ?_
  refine SX.ret ?_
  refine thenQ.ret ?_
  refine retQ.dead [] rfl ?_
  refine retQ.two (ResAt.tmp rfl) (ResAt.tmp rfl) ?_
  rfl
set_option maxHeartbeats 2000000 in
theorem strike1 (s : Sp) (bo ro : Option Addr) (bc rc : Nat) (b3 b4 : Nat) (hv : SpP s) (i : Nat) (l : List Int) (ao : Option Addr) (n c : Nat) (hn : l.length = n) (hn2 : n + 1 ≤ 1000) (lao : Option Addr) (ln lc : Nat) (hln : ln = s.reads.length - i) (hlc : ln ≤ lc) (w : World) (hg : Gl w) (hs : SpAt w s bo ro) (hst0 : StAt w s bo ro bc rc b3 b4) (hl : RowsAt w ao 1 (ones l)) (hll : RowsAt w lao 1 (ones ((numsL s).drop i))) :
    CallsR Tryd.prog 86 [.slice ao n c, .slice lao ln lc, .int .i64 1, .pointer (some ⟨b3, 0, none⟩), .pointer (some ⟨b4, 0, none⟩)] w (FrR (struckP s 1 i l)) := by
  have hH := hv.1
  unfold HeadP at hH
  refine CallsR.of_SX (n := 53) (rs := [.tmp 8, .tmp 9]) Tryd.func86 rfl rfl rfl rfl ?_
  show SX _ _ _ ⟨[(0, .slice ao n c), (1, .slice lao ln lc), (2, .int .i64 1), (3, .pointer (some ⟨b3, 0, none⟩)), (4, .pointer (some ⟨b4, 0, none⟩))], [], []⟩
  subst hn
  have hnl := length_numsL s
  refine SX.seq ?_
  refine SX.region ?_
  refine SXL.assign rfl ?_
  refine SXL.assign rfl ?_
  refine SXL.nil ?_
  refine thenQ.normal ?_
  refine SX.seq ?_
  refine SX.seq ?_
  refine SX.region ?_
  refine SXL.move rfl ?_
  refine SXL.eqlI rfl rfl ?_
  refine SXL.nil ?_
  refine thenQ.normal ?_
  refine SX.condP rfl (fun c17 => ?_) (fun c17 => ?_)
  · exfalso; omega
  refine SX.skip ?_
  refine thenQ.normal ?_
  refine SX.seq ?_
  refine SX.seq ?_
  refine SX.region ?_
  refine SXL.move rfl ?_
  refine SXL.len is_35 rfl ?_
  refine SXL.move rfl ?_
  refine SXL.nil ?_
  refine thenQ.normal ?_
  refine SX.block ?_
  refine SX.loopG (α := Nat) [0, 1, 2, 4, 8, 9, 27, 28] rfl (fun k => [(29, .int .i64 ((k : Int)))]) (fun k => []) (fun k => struckP s 1 i l = struckP s 1 (i + k) l ∧ k ≤ ln) (fun k => ln - k) 0 ⟨rfl, Nat.zero_le _⟩ ⟨rfl, trivial⟩ rfl ?_
  rintro k ⟨hst, hkl⟩
  refine SX.seq ?_
  refine SX.region ?_
  refine SXL.lss rfl rfl ?_
  refine SXL.nil ?_
  refine thenQ.normal ?_
  refine SX.seq ?_
  refine SX.condP rfl (fun c2 => ?_) (fun c2 => ?_)
  · refine SX.skip ?_
    refine thenQ.normal ?_
    refine SX.seq ?_
    refine SX.block ?_
    refine SX.seq ?_
    have hk : i + k < s.reads.length := by omega
    obtain ⟨b, o, ha, hm⟩ := oneI hll (i := k) (by simp; omega)
    have ex : ((numsL s).drop i).getD k 0 = (s.reads.getD (i + k) default).num := by simp [numsL, hk]
    rw [ex] at hm
    refine SX.region ?_
    refine SXL.move rfl ?_
    refine SXL.indexR el_35 rfl rfl ha (by omega) ?_
    refine SXL.load1 sh_3 rfl (hm _) ?_
    refine SXL.assign rfl ?_
    refine SXL.assign rfl ?_
    refine SXL.nil ?_
    refine thenQ.normal ?_
    refine SX.seq ?_
    refine SX.draw 18 (by kernel_rfl) (by kernel_rfl) ⟨[0, 1, 3, 6, 7, 8, 9, 10, 11, 12, 13, 14, 15, 16, 17], [false, false]⟩ ?_
    refine SXA.takeM 0 2 rfl (by kernel_rfl) rfl ?_
    refine SXL.load1 sh_135 rfl (Mem.out1 hst0.fn) ?_
    refine SXL.move rfl ?_
    refine SXL.nil ⟨rfl, rfl, rfl, ?_⟩
    refine SXA.takeM 3 1 rfl (by kernel_rfl) rfl ?_
    refine SXL.move rfl ?_
    refine SXL.nil ⟨rfl, rfl, rfl, ?_⟩
    refine SXA.takeM 6 6 rfl (by kernel_rfl) rfl ?_
    refine SXL.move rfl ?_
    refine SXL.move rfl ?_
    refine SXL.add rfl rfl (by omega) ?_
    refine SXL.sliceL el_35 rfl rfl (by omega) ?_
    refine SXL.move rfl ?_
    refine SXL.sub rfl rfl (by omega) ?_
    refine SXL.nil ⟨rfl, rfl, rfl, ?_⟩
    refine SXA.all [2, 4] (by kernel_rfl) rfl ⟨⟨?_, rfl⟩, ⟨?_, rfl⟩, trivial⟩
    · refine (show SXL _ _ [_] _ _ from ?_)
      refine SXL.callF (IsI l) fn_87 rfl (fun w hI => cloneInts l ao c (by omega) w (hl.inv hI)) ?_; rintro _ _ ⟨r37, o37, rfl, rfl⟩
      refine SXL.nil (stepQ.mk _ rfl rfl ?_)
      refine SXA.all [4] (by kernel_rfl) rfl ⟨⟨?_, rfl⟩, trivial⟩
      refine (show SXL _ _ [_] _ _ from ?_)
      refine SXL.buildSlice et_35 zp_3 rfl rfl rfl rfl ?_; intro b1
      refine SXL.nil (stepQ.mk _ rfl rfl ?_)
      refine SXA.all [5] (by kernel_rfl) rfl ⟨⟨?_, rfl⟩, trivial⟩
      refine (show SXL _ _ [_] _ _ from ?_)
      refine SXL.append 0 ap_35 rfl rfl o37 rfl (.inr ⟨_, _, rfl, Mem.own (i := 1) rfl (takeAt_all _)⟩) rfl rfl ⟨by simp only [maxLen]; omega, by omega⟩ ?_; intro r_40 o_40
      refine SXL.nil (stepQ.mkL _ (by kernel_rfl) rfl rfl ?_)
      refine SXA.all [12] (by kernel_rfl) rfl ⟨⟨?_, rfl⟩, trivial⟩
      refine (show SXL _ _ [_] _ _ from ?_)
      refine SXL.callV (fun v _ => v = .tuple ⟨[r_40.val (l.length + 1), .bool (decide (SpP (wo s (l ++ [(s.reads.getD (i + k) default).num])) ∧ TrueP (wo s (l ++ [(s.reads.getD (i + k) default).num]))))]⟩) fn_86 rfl rfl (fun w hI => strike0 s bo ro bc rc b3 b4 hv (i + k + 1) (l ++ [(s.reads.getD (i + k) default).num]) r_40.addr (l.length + 1) r_40.cap (by simp) (by omega) (cutAddr lao (k + 1) lc 1) (ln - (k + 1)) (lc - (k + 1)) (by omega) (by omega) w (hg.inv hI) (hs.inv hI) (hst0.inv hI) (slOnes hI (l := (l ++ [(s.reads.getD (i + k) default).num])) (by rw [ints_snoc]; exact o_40) (i := 0) (by rw [ints_snoc]; rfl)) (by have := (RowsAt.cut1 hll (i := k + 1) (c := lc) (by simp; omega)).inv hI; rwa [List.drop_drop] at this)) ?_; rintro _ ow rfl
      refine SXL.nil (stepQ.mk _ rfl rfl ?_)
      refine SXA.takeM 13 5 rfl (by kernel_rfl) rfl ?_
      refine SXL.move rfl ?_
      refine SXL.extract rfl rfl ?_
      refine SXL.extract rfl rfl ?_
      refine SXL.assign rfl ?_
      refine SXL.assign rfl ?_
      refine SXL.nil ⟨rfl, rfl, rfl, ?_⟩
      refine SXA.done (by kernel_rfl) ?_
      refine SXL.nil ?_
      refine thenQ.normal ?_
      refine SX.seq ?_
      refine SX.region ?_
      refine SXL.move rfl ?_
      refine SXL.nil ?_
      refine thenQ.normal ?_
      refine SX.condP rfl (fun c50 => ?_) (fun c50 => ?_)
      · refine SX.seq ?_
        refine SX.region ?_
        refine SXL.move rfl ?_
        refine SXL.assign rfl ?_
        refine SXL.assign rfl ?_
        refine SXL.nil ?_
        refine thenQ.normal ?_
        refine SX.ret ?_
        refine blockQ.ret ?_
        refine thenQ.ret ?_
        refine thenQ.ret ?_
        refine blockQ.ret ?_
        refine thenQ.ret ?_
        refine retQ.sel [0] rfl rfl ?_
        refine retQ.two (ResAt.tmp rfl) (ResAt.tmp rfl) ?_
        refine Eq.mp (congrArg (fun c => FrR _ _ [Sl.ent r_40 3 c]) (ints_snoc l (s.reads.getD (i + k) default).num)) ?_
        exact FrR.some (p := True) (hst.trans (by rw [struck_step hk]; simp only [struckP, if_pos c50.2])) (by rw [ints_snoc]; exact o_40) trivial
      · refine SX.skip ?_
        refine blockQ.normal ?_
        refine thenQ.normal ?_
        refine SX.region ?_
        refine SXL.add rfl rfl (by omega) ?_
        refine SXL.move rfl ?_
        refine SXL.nil ?_
        refine thenQ.normal ?_
        refine ⟨k + 1, Meets.mk _ ⟨rfl, trivial⟩ ⟨rfl, rfl, rfl, rfl, rfl, rfl, rfl, rfl, trivial⟩ rfl, ⟨by rw [hst, struck_step hk]; simp only [struckP, if_neg (fun h => c50 ⟨wo_valid hv _, h⟩)]; rfl, by omega⟩, (by omega)⟩
    · refine (show SXL _ _ [_] _ _ from ?_)
      refine SXL.buildSlice et_35 zp_3 rfl rfl rfl rfl ?_; intro b0
      refine SXL.nil (stepQ.mk _ rfl rfl ?_)
      refine SXA.all [2] (by kernel_rfl) rfl ⟨⟨?_, rfl⟩, trivial⟩
      refine (show SXL _ _ [_] _ _ from ?_)
      refine SXL.callF (IsI l) fn_87 rfl (fun w hI => cloneInts l ao c (by omega) w (hl.inv hI)) ?_; rintro _ _ ⟨r37, o37, rfl, rfl⟩
      refine SXL.nil (stepQ.mk _ rfl rfl ?_)
      refine SXA.all [5] (by kernel_rfl) rfl ⟨⟨?_, rfl⟩, trivial⟩
      refine (show SXL _ _ [_] _ _ from ?_)
      refine SXL.append 1 ap_35 rfl rfl o37 rfl (.inr ⟨_, _, rfl, Mem.own (i := 0) rfl (takeAt_all _)⟩) rfl rfl ⟨by simp only [maxLen]; omega, by omega⟩ ?_; intro r_40 o_40
      refine SXL.nil (stepQ.mkL _ (by kernel_rfl) rfl rfl ?_)
      refine SXA.all [12] (by kernel_rfl) rfl ⟨⟨?_, rfl⟩, trivial⟩
      refine (show SXL _ _ [_] _ _ from ?_)
      refine SXL.callV (fun v _ => v = .tuple ⟨[r_40.val (l.length + 1), .bool (decide (SpP (wo s (l ++ [(s.reads.getD (i + k) default).num])) ∧ TrueP (wo s (l ++ [(s.reads.getD (i + k) default).num]))))]⟩) fn_86 rfl rfl (fun w hI => strike0 s bo ro bc rc b3 b4 hv (i + k + 1) (l ++ [(s.reads.getD (i + k) default).num]) r_40.addr (l.length + 1) r_40.cap (by simp) (by omega) (cutAddr lao (k + 1) lc 1) (ln - (k + 1)) (lc - (k + 1)) (by omega) (by omega) w (hg.inv hI) (hs.inv hI) (hst0.inv hI) (slOnes hI (l := (l ++ [(s.reads.getD (i + k) default).num])) (by rw [ints_snoc]; exact o_40) (i := 1) (by rw [ints_snoc]; rfl)) (by have := (RowsAt.cut1 hll (i := k + 1) (c := lc) (by simp; omega)).inv hI; rwa [List.drop_drop] at this)) ?_; rintro _ ow rfl
      refine SXL.nil (stepQ.mk _ rfl rfl ?_)
      refine SXA.takeM 13 5 rfl (by kernel_rfl) rfl ?_
      refine SXL.move rfl ?_
      refine SXL.extract rfl rfl ?_
      refine SXL.extract rfl rfl ?_
      refine SXL.assign rfl ?_
      refine SXL.assign rfl ?_
      refine SXL.nil ⟨rfl, rfl, rfl, ?_⟩
      refine SXA.done (by kernel_rfl) ?_
      refine SXL.nil ?_
      refine thenQ.normal ?_
      refine SX.seq ?_
      refine SX.region ?_
      refine SXL.move rfl ?_
      refine SXL.nil ?_
      refine thenQ.normal ?_
      refine SX.condP rfl (fun c50 => ?_) (fun c50 => ?_)
      · refine SX.seq ?_
        refine SX.region ?_
        refine SXL.move rfl ?_
        refine SXL.assign rfl ?_
        refine SXL.assign rfl ?_
        refine SXL.nil ?_
        refine thenQ.normal ?_
        refine SX.ret ?_
        refine blockQ.ret ?_
        refine thenQ.ret ?_
        refine thenQ.ret ?_
        refine blockQ.ret ?_
        refine thenQ.ret ?_
        refine retQ.sel [1] rfl rfl ?_
        refine retQ.two (ResAt.tmp rfl) (ResAt.tmp rfl) ?_
        refine Eq.mp (congrArg (fun c => FrR _ _ [Sl.ent r_40 3 c]) (ints_snoc l (s.reads.getD (i + k) default).num)) ?_
        exact FrR.some (p := True) (hst.trans (by rw [struck_step hk]; simp only [struckP, if_pos c50.2])) (by rw [ints_snoc]; exact o_40) trivial
      · refine SX.skip ?_
        refine blockQ.normal ?_
        refine thenQ.normal ?_
        refine SX.region ?_
        refine SXL.add rfl rfl (by omega) ?_
        refine SXL.move rfl ?_
        refine SXL.nil ?_
        refine thenQ.normal ?_
        refine ⟨k + 1, Meets.mk _ ⟨rfl, trivial⟩ ⟨rfl, rfl, rfl, rfl, rfl, rfl, rfl, rfl, trivial⟩ rfl, ⟨by rw [hst, struck_step hk]; simp only [struckP, if_neg (fun h => c50 ⟨wo_valid hv _, h⟩)]; rfl, by omega⟩, (by omega)⟩
  · refine SX.exit ?_
    refine thenQ.exit ?_
    refine thenQ.exit ?_
    refine blockQ.exit ?_
    refine thenQ.normal ?_
    refine SX.seq ?_
    refine SX.region ?_
    refine SXL.assign rfl ?_
    refine SXL.assign rfl ?_
    refine SXL.nil ?_
    refine thenQ.normal ?_
    refine SX.ret ?_
    refine retQ.dead [Sl.nil.ent 3 []] rfl ?_
    refine retQ.two (ResAt.tmp rfl) (ResAt.tmp rfl) ?_
    exact FrR.none (hst.trans (struck_done (by omega)))
set_option maxHeartbeats 2000000 in
theorem strike2 (s : Sp) (bo ro : Option Addr) (bc rc : Nat) (b3 b4 : Nat) (hv : SpP s) (i : Nat) (l : List Int) (ao : Option Addr) (n c : Nat) (hn : l.length = n) (hn2 : n + 2 ≤ 1000) (lao : Option Addr) (ln lc : Nat) (hln : ln = s.reads.length - i) (hlc : ln ≤ lc) (w : World) (hg : Gl w) (hs : SpAt w s bo ro) (hst0 : StAt w s bo ro bc rc b3 b4) (hl : RowsAt w ao 1 (ones l)) (hll : RowsAt w lao 1 (ones ((numsL s).drop i))) :
    CallsR Tryd.prog 86 [.slice ao n c, .slice lao ln lc, .int .i64 2, .pointer (some ⟨b3, 0, none⟩), .pointer (some ⟨b4, 0, none⟩)] w (FrR (struckP s 2 i l)) := by
  have hH := hv.1
  unfold HeadP at hH
  refine CallsR.of_SX (n := 53) (rs := [.tmp 8, .tmp 9]) Tryd.func86 rfl rfl rfl rfl ?_
  show SX _ _ _ ⟨[(0, .slice ao n c), (1, .slice lao ln lc), (2, .int .i64 2), (3, .pointer (some ⟨b3, 0, none⟩)), (4, .pointer (some ⟨b4, 0, none⟩))], [], []⟩
  subst hn
  have hnl := length_numsL s
  refine SX.seq ?_
  refine SX.region ?_
  refine SXL.assign rfl ?_
  refine SXL.assign rfl ?_
  refine SXL.nil ?_
  refine thenQ.normal ?_
  refine SX.seq ?_
  refine SX.seq ?_
  refine SX.region ?_
  refine SXL.move rfl ?_
  refine SXL.eqlI rfl rfl ?_
  refine SXL.nil ?_
  refine thenQ.normal ?_
  refine SX.condP rfl (fun c17 => ?_) (fun c17 => ?_)
  · exfalso; omega
  refine SX.skip ?_
  refine thenQ.normal ?_
  refine SX.seq ?_
  refine SX.seq ?_
  refine SX.region ?_
  refine SXL.move rfl ?_
  refine SXL.len is_35 rfl ?_
  refine SXL.move rfl ?_
  refine SXL.nil ?_
  refine thenQ.normal ?_
  refine SX.block ?_
  refine SX.loopG (α := Nat) [0, 1, 2, 4, 8, 9, 27, 28] rfl (fun k => [(29, .int .i64 ((k : Int)))]) (fun k => []) (fun k => struckP s 2 i l = struckP s 2 (i + k) l ∧ k ≤ ln) (fun k => ln - k) 0 ⟨rfl, Nat.zero_le _⟩ ⟨rfl, trivial⟩ rfl ?_
  rintro k ⟨hst, hkl⟩
  refine SX.seq ?_
  refine SX.region ?_
  refine SXL.lss rfl rfl ?_
  refine SXL.nil ?_
  refine thenQ.normal ?_
  refine SX.seq ?_
  refine SX.condP rfl (fun c2 => ?_) (fun c2 => ?_)
  · refine SX.skip ?_
    refine thenQ.normal ?_
    refine SX.seq ?_
    refine SX.block ?_
    refine SX.seq ?_
    have hk : i + k < s.reads.length := by omega
    obtain ⟨b, o, ha, hm⟩ := oneI hll (i := k) (by simp; omega)
    have ex : ((numsL s).drop i).getD k 0 = (s.reads.getD (i + k) default).num := by simp [numsL, hk]
    rw [ex] at hm
    refine SX.region ?_
    refine SXL.move rfl ?_
    refine SXL.indexR el_35 rfl rfl ha (by omega) ?_
    refine SXL.load1 sh_3 rfl (hm _) ?_
    refine SXL.assign rfl ?_
    refine SXL.assign rfl ?_
    refine SXL.nil ?_
    refine thenQ.normal ?_
    refine SX.seq ?_
    refine SX.draw 18 (by kernel_rfl) (by kernel_rfl) ⟨[0, 1, 3, 6, 7, 8, 9, 10, 11, 12, 13, 14, 15, 16, 17], [false, false, false]⟩ ?_
    refine SXA.takeM 0 2 rfl (by kernel_rfl) rfl ?_
    refine SXL.load1 sh_135 rfl (Mem.out1 hst0.fn) ?_
    refine SXL.move rfl ?_
    refine SXL.nil ⟨rfl, rfl, rfl, ?_⟩
    refine SXA.takeM 3 1 rfl (by kernel_rfl) rfl ?_
    refine SXL.move rfl ?_
    refine SXL.nil ⟨rfl, rfl, rfl, ?_⟩
    refine SXA.takeM 6 6 rfl (by kernel_rfl) rfl ?_
    refine SXL.move rfl ?_
    refine SXL.move rfl ?_
    refine SXL.add rfl rfl (by omega) ?_
    refine SXL.sliceL el_35 rfl rfl (by omega) ?_
    refine SXL.move rfl ?_
    refine SXL.sub rfl rfl (by omega) ?_
    refine SXL.nil ⟨rfl, rfl, rfl, ?_⟩
    refine SXA.all [2, 4] (by kernel_rfl) rfl ⟨⟨?_, rfl⟩, ⟨?_, rfl⟩, trivial⟩
    · refine (show SXL _ _ [_] _ _ from ?_)
      refine SXL.callF (IsI l) fn_87 rfl (fun w hI => cloneInts l ao c (by omega) w (hl.inv hI)) ?_; rintro _ _ ⟨r37, o37, rfl, rfl⟩
      refine SXL.nil (stepQ.mk _ rfl rfl ?_)
      refine SXA.all [4] (by kernel_rfl) rfl ⟨⟨?_, rfl⟩, trivial⟩
      refine (show SXL _ _ [_] _ _ from ?_)
      refine SXL.buildSlice et_35 zp_3 rfl rfl rfl rfl ?_; intro b1
      refine SXL.nil (stepQ.mk _ rfl rfl ?_)
      refine SXA.all [5] (by kernel_rfl) rfl ⟨⟨?_, rfl⟩, trivial⟩
      refine (show SXL _ _ [_] _ _ from ?_)
      refine SXL.append 0 ap_35 rfl rfl o37 rfl (.inr ⟨_, _, rfl, Mem.own (i := 1) rfl (takeAt_all _)⟩) rfl rfl ⟨by simp only [maxLen]; omega, by omega⟩ ?_; intro r_40 o_40
      refine SXL.nil (stepQ.mkL _ (by kernel_rfl) rfl rfl ?_)
      refine SXA.all [12] (by kernel_rfl) rfl ⟨⟨?_, rfl⟩, trivial⟩
      refine (show SXL _ _ [_] _ _ from ?_)
      refine SXL.callV (FrR (struckP s 1 (i + k + 1) (l ++ [(s.reads.getD (i + k) default).num]))) fn_86 rfl rfl (fun w hI => strike1 s bo ro bc rc b3 b4 hv (i + k + 1) (l ++ [(s.reads.getD (i + k) default).num]) r_40.addr (l.length + 1) r_40.cap (by simp) (by omega) (cutAddr lao (k + 1) lc 1) (ln - (k + 1)) (lc - (k + 1)) (by omega) (by omega) w (hg.inv hI) (hs.inv hI) (hst0.inv hI) (slOnes hI (l := (l ++ [(s.reads.getD (i + k) default).num])) (by rw [ints_snoc]; exact o_40) (i := 0) (by rw [ints_snoc]; rfl)) (by have := (RowsAt.cut1 hll (i := k + 1) (c := lc) (by simp; omega)).inv hI; rwa [List.drop_drop] at this)) ?_; rintro _ _ ⟨q, oq, rfl, rfl⟩
      refine SXL.nil (stepQ.mk _ rfl rfl ?_)
      refine SXA.takeM 13 5 rfl (by kernel_rfl) rfl ?_
      refine SXL.move rfl ?_
      refine SXL.extract rfl rfl ?_
      refine SXL.extract rfl rfl ?_
      refine SXL.assign rfl ?_
      refine SXL.assign rfl ?_
      refine SXL.nil ⟨rfl, rfl, rfl, ?_⟩
      refine SXA.done (by kernel_rfl) ?_
      refine SXL.nil ?_
      refine thenQ.normal ?_
      refine SX.seq ?_
      refine SX.region ?_
      refine SXL.move rfl ?_
      refine SXL.nil ?_
      refine thenQ.normal ?_
      refine SX.condP rfl (fun c50 => ?_) (fun c50 => ?_)
      · refine SX.seq ?_
        refine SX.region ?_
        refine SXL.move rfl ?_
        refine SXL.assign rfl ?_
        refine SXL.assign rfl ?_
        refine SXL.nil ?_
        refine thenQ.normal ?_
        refine SX.ret ?_
        refine blockQ.ret ?_
        refine thenQ.ret ?_
        refine thenQ.ret ?_
        refine blockQ.ret ?_
        refine thenQ.ret ?_
        refine retQ.sel [2] rfl rfl ?_
        refine retQ.two (ResAt.tmp rfl) (ResAt.tmp rfl) ?_
        exact FrR.some (p := True) (hst.trans (by rw [struck_step hk, isSome_get c50]; rfl)) oq trivial
      · refine SX.skip ?_
        refine blockQ.normal ?_
        refine thenQ.normal ?_
        refine SX.region ?_
        refine SXL.add rfl rfl (by omega) ?_
        refine SXL.move rfl ?_
        refine SXL.nil ?_
        refine thenQ.normal ?_
        refine ⟨k + 1, Meets.mk _ ⟨rfl, trivial⟩ ⟨rfl, rfl, rfl, rfl, rfl, rfl, rfl, rfl, trivial⟩ rfl, ⟨by rw [hst, struck_step hk, isSome_false c50]; rfl, by omega⟩, (by omega)⟩
    · refine (show SXL _ _ [_] _ _ from ?_)
      refine SXL.buildSlice et_35 zp_3 rfl rfl rfl rfl ?_; intro b0
      refine SXL.nil (stepQ.mk _ rfl rfl ?_)
      refine SXA.all [2] (by kernel_rfl) rfl ⟨⟨?_, rfl⟩, trivial⟩
      refine (show SXL _ _ [_] _ _ from ?_)
      refine SXL.callF (IsI l) fn_87 rfl (fun w hI => cloneInts l ao c (by omega) w (hl.inv hI)) ?_; rintro _ _ ⟨r37, o37, rfl, rfl⟩
      refine SXL.nil (stepQ.mk _ rfl rfl ?_)
      refine SXA.all [5] (by kernel_rfl) rfl ⟨⟨?_, rfl⟩, trivial⟩
      refine (show SXL _ _ [_] _ _ from ?_)
      refine SXL.append 1 ap_35 rfl rfl o37 rfl (.inr ⟨_, _, rfl, Mem.own (i := 0) rfl (takeAt_all _)⟩) rfl rfl ⟨by simp only [maxLen]; omega, by omega⟩ ?_; intro r_40 o_40
      refine SXL.nil (stepQ.mkL _ (by kernel_rfl) rfl rfl ?_)
      refine SXA.all [12] (by kernel_rfl) rfl ⟨⟨?_, rfl⟩, trivial⟩
      refine (show SXL _ _ [_] _ _ from ?_)
      refine SXL.callV (FrR (struckP s 1 (i + k + 1) (l ++ [(s.reads.getD (i + k) default).num]))) fn_86 rfl rfl (fun w hI => strike1 s bo ro bc rc b3 b4 hv (i + k + 1) (l ++ [(s.reads.getD (i + k) default).num]) r_40.addr (l.length + 1) r_40.cap (by simp) (by omega) (cutAddr lao (k + 1) lc 1) (ln - (k + 1)) (lc - (k + 1)) (by omega) (by omega) w (hg.inv hI) (hs.inv hI) (hst0.inv hI) (slOnes hI (l := (l ++ [(s.reads.getD (i + k) default).num])) (by rw [ints_snoc]; exact o_40) (i := 1) (by rw [ints_snoc]; rfl)) (by have := (RowsAt.cut1 hll (i := k + 1) (c := lc) (by simp; omega)).inv hI; rwa [List.drop_drop] at this)) ?_; rintro _ _ ⟨q, oq, rfl, rfl⟩
      refine SXL.nil (stepQ.mk _ rfl rfl ?_)
      refine SXA.takeM 13 5 rfl (by kernel_rfl) rfl ?_
      refine SXL.move rfl ?_
      refine SXL.extract rfl rfl ?_
      refine SXL.extract rfl rfl ?_
      refine SXL.assign rfl ?_
      refine SXL.assign rfl ?_
      refine SXL.nil ⟨rfl, rfl, rfl, ?_⟩
      refine SXA.done (by kernel_rfl) ?_
      refine SXL.nil ?_
      refine thenQ.normal ?_
      refine SX.seq ?_
      refine SX.region ?_
      refine SXL.move rfl ?_
      refine SXL.nil ?_
      refine thenQ.normal ?_
      refine SX.condP rfl (fun c50 => ?_) (fun c50 => ?_)
      · refine SX.seq ?_
        refine SX.region ?_
        refine SXL.move rfl ?_
        refine SXL.assign rfl ?_
        refine SXL.assign rfl ?_
        refine SXL.nil ?_
        refine thenQ.normal ?_
        refine SX.ret ?_
        refine blockQ.ret ?_
        refine thenQ.ret ?_
        refine thenQ.ret ?_
        refine blockQ.ret ?_
        refine thenQ.ret ?_
        refine retQ.sel [2] rfl rfl ?_
        refine retQ.two (ResAt.tmp rfl) (ResAt.tmp rfl) ?_
        exact FrR.some (p := True) (hst.trans (by rw [struck_step hk, isSome_get c50]; rfl)) oq trivial
      · refine SX.skip ?_
        refine blockQ.normal ?_
        refine thenQ.normal ?_
        refine SX.region ?_
        refine SXL.add rfl rfl (by omega) ?_
        refine SXL.move rfl ?_
        refine SXL.nil ?_
        refine thenQ.normal ?_
        refine ⟨k + 1, Meets.mk _ ⟨rfl, trivial⟩ ⟨rfl, rfl, rfl, rfl, rfl, rfl, rfl, rfl, trivial⟩ rfl, ⟨by rw [hst, struck_step hk, isSome_false c50]; rfl, by omega⟩, (by omega)⟩
  · refine SX.exit ?_
    refine thenQ.exit ?_
    refine thenQ.exit ?_
    refine blockQ.exit ?_
    refine thenQ.normal ?_
    refine SX.seq ?_
    refine SX.region ?_
    refine SXL.assign rfl ?_
    refine SXL.assign rfl ?_
    refine SXL.nil ?_
    refine thenQ.normal ?_
    refine SX.ret ?_
    refine retQ.dead [Sl.nil.ent 3 []] rfl ?_
    refine retQ.two (ResAt.tmp rfl) (ResAt.tmp rfl) ?_
    exact FrR.none (hst.trans (struck_done (by omega)))
theorem strikeTop (s : Sp) (bo ro : Option Addr) (bc rc b3 b4 : Nat) (hv : SpP s) (m : Nat) (hm : m < 3) (lao : Option Addr) (lc : Nat) (hlc : (numsL s).length ≤ lc) (w : World) (hg : Gl w) (hs : SpAt w s bo ro) (hst0 : StAt w s bo ro bc rc b3 b4) (hll : RowsAt w lao 1 (ones (numsL s))) :
    CallsR Tryd.prog 86 [.slice none 0 0, .slice lao (numsL s).length lc, .int .i64 (m : Int), .pointer (some ⟨b3, 0, none⟩), .pointer (some ⟨b4, 0, none⟩)] w (FrR (struckP s m 0 [])) := by
  have e := length_numsL s
  match m, hm with
  | 0, _ =>
    refine (strike0 s bo ro bc rc b3 b4 hv 0 [] none 0 0 rfl (by omega) lao _ lc (by omega) hlc w hg hs hst0 (.nil _ _ _) hll).own0 fun v e => ?_
    subst e
    simp only [struckP]
    have hv2 := wo_valid hv []
    by_cases h : TrueP (wo s [])
    · rw [if_pos h]; exact ⟨Sl.nil, Sl.Ok.none _, by simp [Sl.val, Sl.nil, Sl.addr, h, hv2], rfl⟩
    · rw [if_neg h]; exact ⟨Sl.nil, Sl.Ok.none _, by simp [Sl.val, Sl.nil, Sl.addr, h], rfl⟩
  | 1, _ => exact strike1 s bo ro bc rc b3 b4 hv 0 [] none 0 0 rfl (by omega) lao _ lc (by omega) hlc w hg hs hst0 (.nil _ _ _) hll
  | 2, _ => exact strike2 s bo ro bc rc b3 b4 hv 0 [] none 0 0 rfl (by omega) lao _ lc (by omega) hlc w hg hs hst0 (.nil _ _ _) hll
set_option maxHeartbeats 2000000 in
theorem swrong_any (s : Sp) (bo ro : Option Addr) (bc rc : Nat) (hb : s.book.length ≤ 1000000) (hr : s.reads.length ≤ 1000000) (w : World) (hg : Gl w) (hs : SpAt w s bo ro) :
    CallsR Tryd.prog 34 [.agg ⟨[.int .i64 s.weeks, .int .i64 s.most, .int .i64 s.fall, .int .i64 s.a0, .int .i64 s.a1, .int .i64 s.w0, .int .i64 s.w1, (.slice bo s.book.length bc), (.slice ro s.reads.length rc)]⟩] w (IsR2 (wrongL s) (wrongE s)) := by
  refine CallsR.of_SX (n := 42) (rs := [.tmp 2, .tmp 3]) Tryd.func34 rfl rfl rfl rfl ?_
  show SX _ _ _ ⟨[(0, .agg ⟨[.int .i64 s.weeks, .int .i64 s.most, .int .i64 s.fall, .int .i64 s.a0, .int .i64 s.a1, .int .i64 s.w0, .int .i64 s.w1, (.slice bo s.book.length bc), (.slice ro s.reads.length rc)]⟩)], [], []⟩
  refine SX.seq ?_
  refine SX.region ?_
  refine SXL.box rfl rfl ?_; intro b0
  refine SXL.assign rfl ?_
  refine SXL.assign rfl ?_
  refine SXL.nil ?_
  refine thenQ.normal ?_
  refine SX.seq ?_
  refine SX.seq ?_
  refine SX.region ?_
  refine SXL.loadNo 0 sh_27 rfl rfl rfl ?_
  refine SXL.call1 (.int .i64 (if SpP s then 0 else 10)) fn_26 rfl (fun w hI => scheck_any s bo ro bc rc hb hr _ (hg.inv hI) (hs.inv hI)) ?_
  refine SXL.assign rfl ?_
  refine SXL.nil ?_
  refine thenQ.normal ?_
  refine SX.seq ?_
  refine SX.region ?_
  refine SXL.move rfl ?_
  refine SXL.neqI rfl rfl ?_
  refine SXL.nil ?_
  refine thenQ.normal ?_
  refine SX.condP rfl (fun c15 => ?_) (fun c15 => ?_)
  · refine SX.seq ?_
    have hv : ¬SpP s := fun h => c15 (by rw [if_pos h])
    refine SX.region ?_
    refine SXL.move rfl ?_
    refine SXL.assign rfl ?_
    refine SXL.assign rfl ?_
    refine SXL.nil ?_
    refine thenQ.normal ?_
    refine SX.ret ?_
    refine thenQ.ret ?_
    refine retQ.dead [Sl.nil.ent 3 []] rfl ?_
    refine retQ.two (ResAt.tmp rfl) (ResAt.tmp rfl) ?_
    rw [if_neg hv, wrongL, if_neg hv, wrongE, if_pos hv]; exact ⟨Sl.nil, Sl.Ok.none _, rfl, rfl⟩
  · refine SX.skip ?_
    refine thenQ.normal ?_
    refine SX.seq ?_
    have hv : SpP s := Decidable.byContradiction fun h => c15 (by rw [if_neg h]; omega)
    have hnl := length_numsL s
    have hH := hv.1
    unfold HeadP at hH
    refine SX.region ?_
    refine SXL.loadNo 0 sh_27 rfl rfl rfl ?_
    refine SXL.callF (IsI (numsL s)) fn_83 rfl (fun w hI => numbers_any s bo ro bc rc hb hr w (hs.inv hI)) ?_; rintro _ _ ⟨q0, o0, rfl, rfl⟩
    refine SXL.assign rfl ?_
    refine SXL.nil ?_
    refine thenQ.normal ?_
    refine SX.seq ?_
    refine SX.seq ?_
    refine SX.region ?_
    refine SXL.loadNo 0 sh_27 rfl rfl rfl ?_
    refine SXL.move rfl ?_
    refine SXL.callF (SpR (wo s (numsL s))) fn_84 rfl (fun w hI => swithout_any s bo ro bc rc (numsL s) q0.addr q0.cap (by omega) hb hr (nums_nodup hv.2.2) w (hs.inv hI) (slOnes hI o0 (i := 1) rfl)) ?_; rintro _ _ ⟨r1, r2, o1, o2, rfl, rfl⟩
    refine SXL.call1 (.tuple ⟨[.bool (decide (SpP (wo s (numsL s)) ∧ TrueP (wo s (numsL s)))), .int .i64 (if SpP (wo s (numsL s)) then 0 else 10)]⟩) fn_18 rfl (fun w hI => scan_any (wo s (numsL s)) r1.addr r2.addr r1.cap r2.cap hb (by have := keepR_len s.reads (numsL s); show (keepR _ _).length ≤ _; omega) _ (hg.inv hI) (spAtOwn hI o1 o2 (i := 2) (j := 3) rfl rfl)) ?_
    refine SXL.move rfl ?_
    refine SXL.extract rfl rfl ?_
    refine SXL.extract rfl rfl ?_
    refine SXL.assign rfl ?_
    refine SXL.assign rfl ?_
    refine SXL.nil ?_
    refine thenQ.normal ?_
    refine SX.seq ?_
    refine SX.region ?_
    refine SXL.move rfl ?_
    refine SXL.not rfl ?_
    refine SXL.nil ?_
    refine thenQ.normal ?_
    refine SX.condP rfl (fun c27 => ?_) (fun c27 => ?_)
    · refine SX.seq ?_
      have hno : ¬TrueP { s with reads := [] } := fun h => c27 ⟨wo_valid hv _, wo_all ▸ h⟩
      refine SX.region ?_
      refine SXL.assign rfl ?_
      refine SXL.assign rfl ?_
      refine SXL.nil ?_
      refine thenQ.normal ?_
      refine SX.ret ?_
      refine thenQ.ret ?_
      refine retQ.dead [Sl.nil.ent 3 []] rfl ?_
      refine retQ.two (ResAt.tmp rfl) (ResAt.tmp rfl) ?_
      rw [wrongL, if_pos hv, wrongE, if_neg (not_not_intro hv), wrong_none hv hno, if_neg (by simp), if_pos hno]; exact ⟨Sl.nil, Sl.Ok.none _, rfl, rfl⟩
    · refine SX.skip ?_
      refine thenQ.normal ?_
      refine SX.seq ?_
      refine SX.region ?_
      refine SXL.alloc zp_135 ?_; intro b4
      refine SXL.nil ?_
      refine thenQ.normal ?_
      refine SX.seq ?_
      refine SX.region ?_
      refine SXL.makeFunc rfl rfl ?_
      refine SXL.store 4 sz_135 rfl rfl rfl rfl rfl rfl ?_
      refine SXL.nil ?_
      refine thenQ.normal ?_
      refine SX.seq ?_
      refine SX.seq ?_
      refine SX.region ?_
      refine SXL.move rfl ?_
      refine SXL.nil ?_
      refine thenQ.normal ?_
      refine SX.block ?_
      refine SX.loopG (α := Nat) [2, 3, 5, 8] rfl (fun m => [(29, .int .i64 ((m : Int)))]) (fun m => []) (fun m => m ≤ 3 ∧ ∀ k, k < m → struckP s k 0 [] = none) (fun m => 3 - m) 0 ⟨by omega, fun k h => absurd h (Nat.not_lt_zero _)⟩ ⟨rfl, trivial⟩ rfl ?_
      rintro m ⟨hm3, hall⟩
      refine SX.seq ?_
      refine SX.region ?_
      refine SXL.lss rfl rfl ?_
      refine SXL.nil ?_
      refine thenQ.normal ?_
      refine SX.seq ?_
      refine SX.condP rfl (fun c3 => ?_) (fun c3 => ?_)
      · refine SX.skip ?_
        refine thenQ.normal ?_
        refine SX.seq ?_
        refine SX.block ?_
        refine SX.seq ?_
        refine SX.region ?_
        refine SXL.move rfl ?_
        refine SXL.assign rfl ?_
        refine SXL.nil ?_
        refine thenQ.normal ?_
        refine SX.seq ?_
        refine SX.region ?_
        refine SXL.load1o 4 sh_135 rfl rfl rfl ?_
        refine SXL.move rfl ?_
        refine SXL.move rfl ?_
        refine SXL.callV (FrR (struckP s m 0 [])) fn_86 rfl rfl (fun w hI => strikeTop s bo ro bc rc b0 b4 hv m (by omega) q0.addr q0.cap o0.cap w (hg.inv hI) (hs.inv hI) ⟨fun j v hj => by rw [Nat.zero_add]; exact ownCell hI (i := 0) rfl hj, ownCell hI (i := 4) (j := 0) rfl rfl⟩ (slOnes hI o0 (i := 1) rfl)) ?_; rintro _ _ ⟨q, oq, rfl, rfl⟩
        refine SXL.move rfl ?_
        refine SXL.extract rfl rfl ?_
        refine SXL.extract rfl rfl ?_
        refine SXL.assign rfl ?_
        refine SXL.assign rfl ?_
        refine SXL.nil ?_
        refine thenQ.normal ?_
        refine SX.seq ?_
        refine SX.region ?_
        refine SXL.move rfl ?_
        refine SXL.nil ?_
        refine thenQ.normal ?_
        refine SX.condP rfl (fun c39 => ?_) (fun c39 => ?_)
        · refine SX.seq ?_
          refine SX.region ?_
          refine SXL.move rfl ?_
          refine SXL.assign rfl ?_
          refine SXL.assign rfl ?_
          refine SXL.nil ?_
          refine thenQ.normal ?_
          refine SX.ret ?_
          refine blockQ.ret ?_
          refine thenQ.ret ?_
          refine thenQ.ret ?_
          refine blockQ.ret ?_
          refine thenQ.ret ?_
          refine retQ.sel [5] rfl rfl ?_
          refine retQ.two (ResAt.tmp rfl) (ResAt.tmp rfl) ?_
          have hw := wrongF_at (by omega) hall (isSome_get c39)
          rw [wrongL, if_pos hv, hw, wrongE, if_neg (not_not_intro hv), hw]; exact ⟨q, oq, rfl, rfl⟩
        · refine SX.skip ?_
          refine blockQ.normal ?_
          refine thenQ.normal ?_
          refine SX.region ?_
          refine SXL.add rfl rfl (by omega) ?_
          refine SXL.move rfl ?_
          refine SXL.nil ?_
          refine thenQ.normal ?_
          refine ⟨m + 1, Meets.mk _ ⟨rfl, trivial⟩ ⟨rfl, rfl, rfl, rfl, trivial⟩ rfl, ⟨by omega, fun k hk => by
            by_cases e : k = m
            · subst e; exact isSome_false c39
            · exact hall k (by omega)⟩, (by omega)⟩
      · refine SX.exit ?_
        refine thenQ.exit ?_
        refine thenQ.exit ?_
        refine blockQ.exit ?_
        refine thenQ.normal ?_
        refine SX.seq ?_
        have hnone : wrongF s = none := wrongF_no fun k hk => hall k (by omega)
        have hyes : TrueP { s with reads := [] } := wo_all ▸ (Decidable.not_not.1 c27).2
        refine SX.region ?_
        refine SXL.assign rfl ?_
        refine SXL.assign rfl ?_
        refine SXL.nil ?_
        refine thenQ.normal ?_
        refine SX.ret ?_
        refine retQ.dead [Sl.nil.ent 3 []] rfl ?_
        refine retQ.two (ResAt.tmp rfl) (ResAt.tmp rfl) ?_
        rw [wrongL, if_pos hv, wrongE, if_neg (not_not_intro hv), hnone, if_neg (by simp), if_neg (not_not_intro hyes)]; exact ⟨Sl.nil, Sl.Ok.none _, rfl, rfl⟩
end Go.Proofs.YtknflipongbngaaDoor

/- Springs that are handed back with an error: struck readings, a line more. -/
namespace Go.S
open Go Go.X
def zeroSp : Sp := ⟨0, 0, 0, 0, 0, 0, 0, [], []⟩
/-- A spring and an error. -/
structure SpE (s : Sp) (e : Int) (v : Value) (own : X.Own) : Prop where
  ex : ∃ r1 r2 : Sl, r1.Ok s.book.length 5 (bookC s) ∧ r2.Ok s.reads.length 5 (readsC s) ∧ v = .tuple ⟨[spV s r1 r2, .int .i64 e]⟩ ∧ own = [r1.ent 61 (bookC s), r2.ent 54 (readsC s)]
theorem SpE.zero (e : Int) : SpE zeroSp e (.tuple ⟨[.agg ⟨[.int .i64 0, .int .i64 0, .int .i64 0, .int .i64 0, .int .i64 0, .int .i64 0, .int .i64 0, .slice none 0 0, .slice none 0 0]⟩, .int .i64 e]⟩) [Sl.nil.ent 61 [], Sl.nil.ent 54 []] :=
  ⟨Sl.nil, Sl.nil, Sl.Ok.none _, Sl.Ok.none _, rfl, rfl⟩
/-- Numbers of readings, in order. -/
def StrikeOk (s : Sp) (ns : List Int) : Prop := ∀ i, i < ns.length → ns.getD i 0 ∈ numsL s ∧ (0 < i → ns.getD (i - 1) 0 < ns.getD i 0)
instance (s : Sp) (ns : List Int) : Decidable (StrikeOk s ns) := by unfold StrikeOk; infer_instance
def strikeE (s : Sp) (ns : List Int) : Int := if ¬SpP s then 10 else if ¬StrikeOk s ns then 12 else 0
def strikeS (s : Sp) (ns : List Int) : Sp := if strikeE s ns = 0 then wo s ns else zeroSp
theorem strike_bad {s : Sp} {ns : List Int} {e : Int} (h : strikeE s ns = e) (he : e ≠ 0) : strikeS s ns = zeroSp := if_neg (by rw [h]; exact he)
theorem strike_ok {s : Sp} {ns : List Int} (h : strikeE s ns = 0) : strikeS s ns = wo s ns := if_pos h
theorem num_pos {s : Sp} (hv : SpP s) {x : Int} (h : x ∈ numsL s) : 1 ≤ x := by
  obtain ⟨r, hr, rfl⟩ := List.mem_map.1 h
  have := (readsP_iff.1 hv.2.2).1 r hr
  omega
/-- The number ahead; nought ahead of all. -/
def lastOf (ns : List Int) (j : Nat) : Int := if j = 0 then 0 else ns.getD (j - 1) 0
def StrikeTo (s : Sp) (ns : List Int) (j : Nat) : Prop := ∀ i, i < j → ns.getD i 0 ∈ numsL s ∧ (0 < i → ns.getD (i - 1) 0 < ns.getD i 0)
theorem StrikeTo.next {s : Sp} {ns : List Int} {j : Nat} (h : StrikeTo s ns j) (h1 : ns.getD j 0 ∈ numsL s) (h2 : 0 < j → ns.getD (j - 1) 0 < ns.getD j 0) : StrikeTo s ns (j + 1) := fun i hi => by
  by_cases e : i = j
  · subst e; exact ⟨h1, h2⟩
  · exact h i (by omega)
theorem StrikeTo.all {s : Sp} {ns : List Int} (h : StrikeTo s ns ns.length) : StrikeOk s ns := fun i hi => h i hi
theorem lastOf_next {s : Sp} {ns : List Int} {j : Nat} (h : ¬(ns.getD j 0 ≤ lastOf ns j ∨ ¬ns.getD j 0 ∈ numsL s)) : lastOf ns j < ns.getD j 0 ∧ ns.getD j 0 ∈ numsL s :=
  ⟨by rcases Int.lt_or_le (lastOf ns j) (ns.getD j 0) with h1 | h1
      · exact h1
      · exact absurd (.inl h1) h, Decidable.byContradiction fun h1 => h (.inr h1)⟩
theorem lastOf_lt {ns : List Int} {j : Nat} {x : Int} (h : lastOf ns j < x) : 0 < j → ns.getD (j - 1) 0 < x := fun h0 => by
  unfold lastOf at h
  rw [if_neg (by omega)] at h
  exact h
theorem lastOf_bad {s : Sp} (hv : SpP s) {ns : List Int} {j : Nat} (hj : j < ns.length) (h : ns.getD j 0 ≤ lastOf ns j ∨ ns.getD j 0 ∉ numsL s) : ¬StrikeOk s ns := fun hok => by
  have h1 := hok j hj
  rcases h with h | h
  · by_cases h0 : j = 0
    · have := num_pos hv h1.1
      unfold lastOf at h
      rw [if_pos h0] at h
      omega
    · have := h1.2 (by omega)
      unfold lastOf at h
      rw [if_neg h0] at h
      omega
  · exact h h1.1
/-! ### a line more -/
def withLine (s : Sp) (y : Ln) : Sp := { s with book := s.book ++ [y] }
def writeE (s : Sp) (y : Ln) : Int := if ¬SpP s then 10 else if s.book.length = 8 then 9 else if ¬SpP (withLine s y) then 13 else 0
def writeS (s : Sp) (y : Ln) : Sp := if writeE s y = 0 then withLine s y else zeroSp
theorem bookC_line (s : Sp) (y : Ln) : bookC (withLine s y) = bookC s ++ y.cells := by simp [bookC, withLine]
theorem write_bad {s : Sp} {y : Ln} {e : Int} (h : writeE s y = e) (he : e ≠ 0) : writeS s y = zeroSp := if_neg (by rw [h]; exact he)
theorem write_ok {s : Sp} {y : Ln} (h : writeE s y = 0) : writeS s y = withLine s y := if_pos h
theorem wo_nil (s : Sp) : wo s [] = s := by
  unfold wo keepR
  have : (s.reads.filter fun x => decide (x.num ∉ ([] : List Int))) = s.reads := List.filter_eq_self.2 fun x _ => by simp
  rw [this]
end Go.S

/- The walks of functions. -/
namespace Go.Proofs.YtknflipongbngaaDoor
open Go.X Go.S Go.RowKit
theorem containsInts (l : List Int) (x : Int) (ao : Option Addr) (c : Nat) (hl2 : l.length ≤ 1000000) (w : World) (h : RowsAt w ao 1 (ones l)) :
    CallsR Tryd.prog 93 [.slice ao l.length c, .int .i64 x] w (fun v _ => v = .bool (decide (x ∈ l))) := by
  refine CallsR.of_SX (n := 9) (rs := [.tmp 4]) Tryd.func93 rfl rfl rfl rfl ?_
  show SX _ _ _ ⟨[(0, .slice ao l.length c), (1, .int .i64 x)], [], []⟩
  refine SX.seq ?_
  refine SX.region ?_
  refine SXL.assign rfl ?_
  refine SXL.nil ?_
  refine thenQ.normal ?_
  refine SX.seq ?_
  refine SX.region ?_
  refine SXL.move rfl ?_
  refine SXL.move rfl ?_
  refine SXL.call1 (.int .i64 (idxF (fun k => x = l.getD k 0) l.length)) fn_107 rfl (fun w hI => indexInts l x ao c hl2 _ (h.inv hI)) ?_
  refine SXL.geq rfl rfl ?_
  refine SXL.assign rfl ?_
  refine SXL.nil ?_
  refine thenQ.normal ?_
  refine SX.ret ?_
  refine retQ.one (ResAt.tmp rfl) ?_
  exact congrArg Value.bool (decide_eq_decide.2 (by
    rw [idxF_nonneg]
    constructor
    · rintro ⟨k, hk, e⟩
      rw [e, List.getD_eq_getElem?_getD, List.getElem?_eq_getElem hk]; exact List.getElem_mem hk
    · intro h
      obtain ⟨k, hk, e⟩ := List.getElem_of_mem h
      exact ⟨k, hk, by simp [hk, e]⟩))
set_option maxHeartbeats 2000000 in
theorem sstrike_any (s : Sp) (bo ro : Option Addr) (bc rc : Nat) (ns : List Int) (ao : Option Addr) (nc : Nat) (hn : ns.length ≤ 1000000) (hb : s.book.length ≤ 1000000) (hr : s.reads.length ≤ 1000000) (w : World) (hg : Gl w) (hs : SpAt w s bo ro) (ha0 : RowsAt w ao 1 (ones ns)) :
    CallsR Tryd.prog 40 [.agg ⟨[.int .i64 s.weeks, .int .i64 s.most, .int .i64 s.fall, .int .i64 s.a0, .int .i64 s.a1, .int .i64 s.w0, .int .i64 s.w1, (.slice bo s.book.length bc), (.slice ro s.reads.length rc)]⟩, .slice ao ns.length nc] w (SpE (strikeS s ns) (strikeE s ns)) := by
  refine CallsR.of_SX (n := 38) (rs := [.cell 4 27, .tmp 5]) Tryd.func40 rfl rfl rfl rfl ?_
  show SX _ _ _ ⟨[(0, .agg ⟨[.int .i64 s.weeks, .int .i64 s.most, .int .i64 s.fall, .int .i64 s.a0, .int .i64 s.a1, .int .i64 s.w0, .int .i64 s.w1, (.slice bo s.book.length bc), (.slice ro s.reads.length rc)]⟩), (1, .slice ao ns.length nc)], [], []⟩
  refine SX.seq ?_
  refine SX.region ?_
  refine SXL.box rfl rfl ?_; intro b0
  refine SXL.alloc zp_27 ?_; intro b1
  refine SXL.assign rfl ?_
  refine SXL.nil ?_
  refine thenQ.normal ?_
  refine SX.seq ?_
  refine SX.seq ?_
  refine SX.region ?_
  refine SXL.loadNo 0 sh_27 rfl rfl rfl ?_
  refine SXL.call1 (.int .i64 (if SpP s then 0 else 10)) fn_26 rfl (fun w hI => scheck_any s bo ro bc rc hb hr _ (hg.inv hI) (hs.inv hI)) ?_
  refine SXL.assign rfl ?_
  refine SXL.nil ?_
  refine thenQ.normal ?_
  refine SX.seq ?_
  refine SX.region ?_
  refine SXL.move rfl ?_
  refine SXL.neqI rfl rfl ?_
  refine SXL.nil ?_
  refine thenQ.normal ?_
  refine SX.condP rfl (fun c13 => ?_) (fun c13 => ?_)
  · refine SX.seq ?_
    have hv : ¬SpP s := fun h => c13 (by rw [if_pos h])
    refine SX.region ?_
    refine SXL.buildS pl_27 zp_27 rfl rfl ?_
    refine SXL.move rfl ?_
    refine SXL.store 1 sz_27 rfl rfl rfl rfl rfl rfl ?_
    refine SXL.assign rfl ?_
    refine SXL.nil ?_
    refine thenQ.normal ?_
    refine SX.ret ?_
    refine thenQ.ret ?_
    refine retQ.dead [Sl.nil.ent 61 [], Sl.nil.ent 54 []] rfl ?_
    refine retQ.two (ResAt.cellNo 1 sh_27 rfl rfl rfl) (ResAt.tmp rfl) ?_
    rw [if_neg hv]
    have he : strikeE s ns = 10 := by rw [strikeE, if_pos hv]
    rw [strike_bad he (by omega), he]; exact SpE.zero _
  · refine SX.skip ?_
    refine thenQ.normal ?_
    refine SX.seq ?_
    have hv : SpP s := Decidable.byContradiction fun h => c13 (by rw [if_neg h]; omega)
    have hH := hv.1
    unfold HeadP at hH
    have hnl := length_numsL s
    refine SX.region ?_
    refine SXL.assign rfl ?_
    refine SXL.nil ?_
    refine thenQ.normal ?_
    refine SX.seq ?_
    refine SX.seq ?_
    refine SX.region ?_
    refine SXL.move rfl ?_
    refine SXL.len is_35 rfl ?_
    refine SXL.move rfl ?_
    refine SXL.nil ?_
    refine thenQ.normal ?_
    refine SX.block ?_
    refine SX.loopG (α := Nat) [1, 2, 4, 5, 16, 17] rfl (fun j => [(18, .int .i64 ((j : Int))), (7, .int .i64 ((lastOf ns j)))]) (fun j => []) (fun j => j ≤ ns.length ∧ StrikeTo s ns j) (fun j => ns.length - j) 0 ⟨Nat.zero_le _, fun i h => absurd h (Nat.not_lt_zero _)⟩ ⟨rfl, rfl, trivial⟩ rfl ?_
    rintro j ⟨hjl, hall⟩
    refine SX.seq ?_
    refine SX.region ?_
    refine SXL.lss rfl rfl ?_
    refine SXL.nil ?_
    refine thenQ.normal ?_
    refine SX.seq ?_
    refine SX.condP rfl (fun c2 => ?_) (fun c2 => ?_)
    · refine SX.skip ?_
      refine thenQ.normal ?_
      refine SX.seq ?_
      refine SX.block ?_
      refine SX.seq ?_
      have hj : j < ns.length := by omega
      obtain ⟨b, o, ha, hm⟩ := oneI ha0 hj
      refine SX.region ?_
      refine SXL.indexR el_35 rfl rfl ha (by omega) ?_
      refine SXL.load1 sh_3 rfl (hm _) ?_
      refine SXL.assign rfl ?_
      refine SXL.nil ?_
      refine thenQ.normal ?_
      refine SX.seq ?_
      refine SX.seq ?_
      refine SX.region ?_
      refine SXL.move rfl ?_
      refine SXL.move rfl ?_
      refine SXL.leq rfl rfl ?_
      refine SXL.move rfl ?_
      apply SXL.orG 5
      case hl => exact rfl
      case hd => exact rfl
      case hg => exact rfl
      case ht =>
        intro c31
        refine SXL.pass rfl rfl rfl ?_
        refine SXL.pass rfl rfl rfl ?_
        refine SXL.pass rfl rfl rfl ?_
        refine SXL.pass rfl rfl rfl ?_
        refine SXL.pass rfl rfl rfl ?_
        exact SXL.nil (segQ.mk (.skip rfl (.skip rfl (.skip rfl (.skip rfl (.skip rfl (.skip rfl (EnvSub.refl _))))))) rfl rfl rfl)
      case hf =>
        intro c31
        refine SXL.loadNo 0 sh_27 rfl rfl rfl ?_
        refine SXL.callF (IsI (numsL s)) fn_83 rfl (fun w hI => numbers_any s bo ro bc rc hb hr w (hs.inv hI)) ?_; rintro _ _ ⟨q0, o0, rfl, rfl⟩
        refine SXL.move rfl ?_
        refine SXL.call1 (.bool (decide ((ns.getD j 0) ∈ numsL s))) fn_93 rfl (fun w hI => containsInts (numsL s) (ns.getD j 0) q0.addr q0.cap (by omega) _ (slOnes hI o0 (i := 2) rfl)) ?_
        refine SXL.not rfl ?_
        exact SXL.ownPre (SXL.nil (segQ.mk (.skip rfl (.skip rfl (.skip rfl (.skip rfl (.skip rfl (.skip rfl (EnvSub.refl _))))))) rfl rfl ⟨rfl, rfl⟩)) rfl
      refine SXL.nil ?_
      refine thenQ.normal ?_
      refine SX.condP rfl (fun c31 => ?_) (fun c31 => ?_)
      · refine SX.seq ?_
        refine SX.region ?_
        refine SXL.buildS pl_27 zp_27 rfl rfl ?_
        refine SXL.store 1 sz_27 rfl rfl rfl rfl rfl rfl ?_
        refine SXL.assign rfl ?_
        refine SXL.nil ?_
        refine thenQ.normal ?_
        refine SX.ret ?_
        refine thenQ.ret ?_
        refine blockQ.ret ?_
        refine thenQ.ret ?_
        refine thenQ.ret ?_
        refine blockQ.ret ?_
        refine thenQ.ret ?_
        refine retQ.dead [Sl.nil.ent 61 [], Sl.nil.ent 54 []] rfl ?_
        refine retQ.two (ResAt.cellNo 1 sh_27 rfl rfl rfl) (ResAt.tmp rfl) ?_
        have he : strikeE s ns = 12 := by rw [strikeE, if_neg (not_not_intro hv), if_pos (lastOf_bad hv hj c31)]
        rw [strike_bad he (by omega), he]; exact SpE.zero _
      · refine SX.skip ?_
        refine thenQ.normal ?_
        refine SX.region ?_
        refine SXL.move rfl ?_
        refine SXL.assign rfl ?_
        refine SXL.nil ?_
        refine blockQ.normal ?_
        refine thenQ.normal ?_
        refine SX.region ?_
        refine SXL.add rfl rfl (by omega) ?_
        refine SXL.move rfl ?_
        refine SXL.nil ?_
        refine thenQ.normal ?_
        refine ⟨j + 1, Meets.mk _ ⟨rfl, congrArg (fun z => some (Value.int .i64 z)) (show ns.getD j 0 = lastOf ns (j + 1) from by rw [lastOf, if_neg (by omega), Nat.add_sub_cancel]), trivial⟩ ⟨rfl, rfl, rfl, rfl, rfl, rfl, trivial⟩ rfl, ⟨by omega, hall.next (lastOf_next c31).2 (lastOf_lt (lastOf_next c31).1)⟩, (by omega)⟩
    · refine SX.exit ?_
      refine thenQ.exit ?_
      refine thenQ.exit ?_
      refine blockQ.exit ?_
      refine thenQ.normal ?_
      refine SX.seq ?_
      obtain rfl : j = ns.length := by omega
      refine SX.region ?_
      refine SXL.loadNo 0 sh_27 rfl rfl rfl ?_
      refine SXL.move rfl ?_
      refine SXL.callF (SpR (wo s ns)) fn_84 rfl (fun w hI => swithout_any s bo ro bc rc ns ao nc hn hb hr (nums_nodup hv.2.2) w (hs.inv hI) (ha0.inv hI)) ?_; rintro _ _ ⟨r1, r2, o1, o2, rfl, rfl⟩
      refine SXL.store 1 sz_27 rfl rfl rfl rfl rfl rfl ?_
      refine SXL.assign rfl ?_
      refine SXL.nil ?_
      refine thenQ.normal ?_
      refine SX.ret ?_
      refine retQ.sel [2, 3] rfl rfl ?_
      refine retQ.two (ResAt.cellNo 1 sh_27 rfl rfl rfl) (ResAt.tmp rfl) ?_
      have he : strikeE s ns = 0 := by rw [strikeE, if_neg (not_not_intro hv), if_neg (not_not_intro hall.all)]
      rw [strike_ok he, he]; exact ⟨r1, r2, o1, o2, rfl, rfl⟩
set_option maxHeartbeats 2000000 in
theorem swrite_any (s : Sp) (bo ro : Option Addr) (bc rc : Nat) (y : Ln) (hb : s.book.length ≤ 1000000) (hr : s.reads.length ≤ 1000000) (w : World) (hg : Gl w) (hs : SpAt w s bo ro) :
    CallsR Tryd.prog 38 [.agg ⟨[.int .i64 s.weeks, .int .i64 s.most, .int .i64 s.fall, .int .i64 s.a0, .int .i64 s.a1, .int .i64 s.w0, .int .i64 s.w1, (.slice bo s.book.length bc), (.slice ro s.reads.length rc)]⟩, .agg ⟨y.cells⟩] w (SpE (writeS s y) (writeE s y)) := by
  refine CallsR.of_SX (n := 31) (rs := [.cell 4 27, .tmp 5]) Tryd.func38 rfl rfl rfl rfl ?_
  show SX _ _ _ ⟨[(0, .agg ⟨[.int .i64 s.weeks, .int .i64 s.most, .int .i64 s.fall, .int .i64 s.a0, .int .i64 s.a1, .int .i64 s.w0, .int .i64 s.w1, (.slice bo s.book.length bc), (.slice ro s.reads.length rc)]⟩), (1, .agg ⟨y.cells⟩)], [], []⟩
  refine SX.seq ?_
  refine SX.region ?_
  refine SXL.box rfl rfl ?_; intro b0
  refine SXL.box rfl rfl ?_; intro b1
  refine SXL.alloc zp_27 ?_; intro b2
  refine SXL.assign rfl ?_
  refine SXL.nil ?_
  refine thenQ.normal ?_
  refine SX.seq ?_
  refine SX.seq ?_
  refine SX.region ?_
  refine SXL.loadNo 0 sh_27 rfl rfl rfl ?_
  refine SXL.call1 (.int .i64 (if SpP s then 0 else 10)) fn_26 rfl (fun w hI => scheck_any s bo ro bc rc hb hr _ (hg.inv hI) (hs.inv hI)) ?_
  refine SXL.assign rfl ?_
  refine SXL.nil ?_
  refine thenQ.normal ?_
  refine SX.seq ?_
  refine SX.region ?_
  refine SXL.move rfl ?_
  refine SXL.neqI rfl rfl ?_
  refine SXL.nil ?_
  refine thenQ.normal ?_
  refine SX.condP rfl (fun c10 => ?_) (fun c10 => ?_)
  · refine SX.seq ?_
    have hv : ¬SpP s := fun h => c10 (by rw [if_pos h])
    refine SX.region ?_
    refine SXL.buildS pl_27 zp_27 rfl rfl ?_
    refine SXL.move rfl ?_
    refine SXL.store 2 sz_27 rfl rfl rfl rfl rfl rfl ?_
    refine SXL.assign rfl ?_
    refine SXL.nil ?_
    refine thenQ.normal ?_
    refine SX.ret ?_
    refine thenQ.ret ?_
    refine retQ.dead [Sl.nil.ent 61 [], Sl.nil.ent 54 []] rfl ?_
    refine retQ.two (ResAt.cellNo 2 sh_27 rfl rfl rfl) (ResAt.tmp rfl) ?_
    rw [if_neg hv]
    have he : writeE s y = 10 := by rw [writeE, if_pos hv]
    rw [write_bad he (by omega), he]; exact SpE.zero _
  · refine SX.skip ?_
    refine thenQ.normal ?_
    refine SX.seq ?_
    refine SX.seq ?_
    have hv : SpP s := Decidable.byContradiction fun h => c10 (by rw [if_neg h]; omega)
    have hH := hv.1
    unfold HeadP at hH
    refine SX.region ?_
    refine SXL.fieldAddr fp_27_5 rfl ?_
    refine SXL.load1o 0 sh_24 rfl rfl rfl ?_
    refine SXL.len is_24 rfl ?_
    refine SXL.eqlI rfl rfl ?_
    refine SXL.nil ?_
    refine thenQ.normal ?_
    refine SX.condP rfl (fun c16 => ?_) (fun c16 => ?_)
    · refine SX.seq ?_
      refine SX.region ?_
      refine SXL.buildS pl_27 zp_27 rfl rfl ?_
      refine SXL.store 2 sz_27 rfl rfl rfl rfl rfl rfl ?_
      refine SXL.assign rfl ?_
      refine SXL.nil ?_
      refine thenQ.normal ?_
      refine SX.ret ?_
      refine thenQ.ret ?_
      refine retQ.dead [Sl.nil.ent 61 [], Sl.nil.ent 54 []] rfl ?_
      refine retQ.two (ResAt.cellNo 2 sh_27 rfl rfl rfl) (ResAt.tmp rfl) ?_
      have he : writeE s y = 9 := by rw [writeE, if_neg (not_not_intro hv), if_pos (by omega)]
      rw [write_bad he (by omega), he]; exact SpE.zero _
    · refine SX.skip ?_
      refine thenQ.normal ?_
      refine SX.seq ?_
      refine SX.region ?_
      refine SXL.loadNo 0 sh_27 rfl rfl rfl ?_
      refine SXL.callF (SpR s) fn_84 rfl (fun w hI => (swithout_any s bo ro bc rc [] none 0 (by simp) hb hr (nums_nodup hv.2.2) w (hs.inv hI) (.nil _ _ _)).mono (fun v own h => by rw [wo_nil] at h; exact h)) ?_; rintro _ _ ⟨r1, r2, o1, o2, rfl, rfl⟩
      refine SXL.store 0 sz_27 rfl rfl rfl rfl rfl rfl ?_
      refine SXL.nil ?_
      refine thenQ.normal ?_
      refine SX.seq ?_
      refine SX.region ?_
      refine SXL.fieldAddr fp_27_5 rfl ?_
      refine SXL.load1o 0 sh_24 rfl rfl rfl ?_
      refine SXL.loadNo 1 sh_61 rfl rfl rfl ?_
      refine SXL.buildSlice et_24 zp_61 rfl rfl rfl rfl ?_; intro b5
      refine SXL.append 3 ap_24 rfl rfl o1 rfl (.inr ⟨_, _, rfl, Mem.own (i := 5) rfl (takeAt_all _)⟩) rfl rfl ⟨by simp only [maxLen]; omega, by omega⟩ ?_; intro r_24 o_24
      rw [show s.book.length + 1 = (withLine s y).book.length from by simp [withLine]] at o_24 ⊢
      refine SXL.fieldAddr fp_27_5 rfl ?_
      refine SXL.store 0 sz_24 rfl rfl rfl rfl rfl rfl ?_
      refine SXL.nil ?_
      refine thenQ.normal ?_
      refine SX.seq ?_
      refine SX.seq ?_
      refine SX.region ?_
      refine SXL.loadNo 0 sh_27 rfl rfl rfl ?_
      refine SXL.call1 (.int .i64 (if SpP (withLine s y) then 0 else 10)) fn_26 rfl (fun w hI => scheck_any (withLine s y) r_24.addr r2.addr r_24.cap r2.cap (by simp [withLine]; omega) hr _ (hg.inv hI) (spAtOwn (s := (withLine s y)) hI (by rw [bookC_line]; exact o_24) o2 (i := 3) (j := 4) (by rw [bookC_line]; rfl) rfl)) ?_
      refine SXL.neqI rfl rfl ?_
      refine SXL.nil ?_
      refine thenQ.normal ?_
      refine SX.condP rfl (fun c28 => ?_) (fun c28 => ?_)
      · refine SX.seq ?_
        have hw : ¬SpP (withLine s y) := fun h => c28 (by rw [if_pos h])
        refine SX.region ?_
        refine SXL.buildS pl_27 zp_27 rfl rfl ?_
        refine SXL.store 2 sz_27 rfl rfl rfl rfl rfl rfl ?_
        refine SXL.assign rfl ?_
        refine SXL.nil ?_
        refine thenQ.normal ?_
        refine SX.ret ?_
        refine thenQ.ret ?_
        refine retQ.dead [Sl.nil.ent 61 [], Sl.nil.ent 54 []] rfl ?_
        refine retQ.two (ResAt.cellNo 2 sh_27 rfl rfl rfl) (ResAt.tmp rfl) ?_
        have he : writeE s y = 13 := by rw [writeE, if_neg (not_not_intro hv), if_neg (by omega), if_pos hw]
        rw [write_bad he (by omega), he]; exact SpE.zero _
      · refine SX.skip ?_
        refine thenQ.normal ?_
        refine SX.seq ?_
        have hw : SpP (withLine s y) := Decidable.byContradiction fun h => c28 (by rw [if_neg h]; omega)
        refine SX.region ?_
        refine SXL.loadNo 0 sh_27 rfl rfl rfl ?_
        refine SXL.store 2 sz_27 rfl rfl rfl rfl rfl rfl ?_
        refine SXL.assign rfl ?_
        refine SXL.nil ?_
        refine thenQ.normal ?_
        refine SX.ret ?_
        refine retQ.sel [3, 4] rfl rfl ?_
        refine retQ.two (ResAt.cellNo 2 sh_27 rfl rfl rfl) (ResAt.tmp rfl) ?_
        have he : writeE s y = 0 := by rw [writeE, if_neg (not_not_intro hv), if_neg (by omega), if_neg (not_not_intro hw)]
        rw [write_ok he, he]; exact ⟨r_24, r2, by rw [bookC_line]; exact o_24, o2, rfl, by rw [bookC_line]; rfl⟩
end Go.Proofs.YtknflipongbngaaDoor

/- The calculus' rules: '==' on bools. Nothing of the program stands here. -/
namespace Go.X
open Go Go.RowKit
def isBoolP (P : Program) (t : TypeId) : Bool := match P.underlying t with | some .bool => true | _ => false
section
variable {C : Cx} {Q : Post} {env : Env} {own : Own} {D : List Deferred} {ops : Array Oper} {rest : List Oper}
variable {d : Nat} {ty : TypeId} {pos : String} {aft : Array Edge} {g : Option (Nat × Bool)} {x y : Operand} {T T' : TypeId} {p q : Prop} [Decidable p] [Decidable q]
/-! ### where both sides are known to be the same -/
theorem SXL.eqlT {k : IntKind} {A : Int} (hx : ev env x = some (.int k A)) (hy : ev env y = some (.int k A))
    (h : SXL C ops rest Q ⟨(d, .bool true) :: env, own, D⟩) (hd : Nat.blt d C.n = true := by rfl) (hw : Wanted ops g env = some true := by rfl) :
    SXL C ops ({ dst := some d, op := .binOp .eql T x y T', type := ty, pos, after := aft, guard := g } :: rest) Q ⟨env, own, D⟩ :=
  SXL.eqlI hx hy (by rw [decide_eq_true (p := A = A) rfl]; exact h) hd hw
theorem SXL.neqF {k : IntKind} {A : Int} (hx : ev env x = some (.int k A)) (hy : ev env y = some (.int k A))
    (h : SXL C ops rest Q ⟨(d, .bool false) :: env, own, D⟩) (hd : Nat.blt d C.n = true := by rfl) (hw : Wanted ops g env = some true := by rfl) :
    SXL C ops ({ dst := some d, op := .binOp .neq T x y T', type := ty, pos, after := aft, guard := g } :: rest) Q ⟨env, own, D⟩ :=
  SXL.neqI hx hy (by rw [decide_eq_false (p := A ≠ A) (fun h => h rfl)]; exact h) hd hw
theorem SXL.eqlVT {xs : List Int} {n : Nat} (he : eqP C.P 5 T = some n) (hg : C.P.eqGuardType C.P.depth T = false) (hs : shapeT C.P T = some (some n)) (hl : xs.length = n) (hx : ev env x = some (.agg ⟨ints xs⟩)) (hy : ev env y = some (.agg ⟨ints xs⟩))
    (h : SXL C ops rest Q ⟨(d, .bool true) :: env, own, D⟩) (hd : Nat.blt d C.n = true := by rfl) (hw : Wanted ops g env = some true := by rfl) :
    SXL C ops ({ dst := some d, op := .binOp .eql T x y T', type := ty, pos, after := aft, guard := g } :: rest) Q ⟨env, own, D⟩ :=
  SXL.eqlV (p := xs = xs) hx hy (run_eql_ints he hg hs hl hl) (by rw [decide_eq_true (p := xs = xs) rfl]; exact h) hd hw
theorem SXL.neqVF {xs : List Int} {n : Nat} (he : eqP C.P 5 T = some n) (hg : C.P.eqGuardType C.P.depth T = false) (hs : shapeT C.P T = some (some n)) (hl : xs.length = n) (hx : ev env x = some (.agg ⟨ints xs⟩)) (hy : ev env y = some (.agg ⟨ints xs⟩))
    (h : SXL C ops rest Q ⟨(d, .bool false) :: env, own, D⟩) (hd : Nat.blt d C.n = true := by rfl) (hw : Wanted ops g env = some true := by rfl) :
    SXL C ops ({ dst := some d, op := .binOp .neq T x y T', type := ty, pos, after := aft, guard := g } :: rest) Q ⟨env, own, D⟩ :=
  SXL.neqV (p := xs ≠ xs) hx hy (run_neq_ints he hg hs hl hl) (by rw [decide_eq_false (p := xs ≠ xs) (fun h => h rfl)]; exact h) hd hw
theorem SXL.notF (hx : ev env x = some (.bool true))
    (h : SXL C ops rest Q ⟨(d, .bool false) :: env, own, D⟩) (hd : Nat.blt d C.n = true := by rfl) (hw : Wanted ops g env = some true := by rfl) :
    SXL C ops ({ dst := some d, op := .unOp .not T x, type := ty, pos, after := aft, guard := g } :: rest) Q ⟨env, own, D⟩ :=
  SXL.not (p := True) hx (by rw [decide_eq_false (p := ¬True) (fun h => h trivial)]; exact h) hd hw
end
end Go.X

/- How long lists are that are handed back. Nothing of Go stands here. -/
namespace Go.S
end Go.S

/- The examples: what is told of them. -/
namespace Go.Proofs.YtknflipongbngaaDoor
open Go.X Go.S Go.RowKit
/-- The spring of the examples, with readings more. -/
def fntM (more : List Rd) : Sp := ⟨4, 40, 8, 60, 70, 3, 5, [⟨0, 3, 2, 5, 12⟩, ⟨4, 9, 2, 10, 25⟩], ⟨1, 0, 10, 18, 20⟩ :: more⟩
def fnt : Sp := fntM []
def oddR : Rd := ⟨3, 1, 10, 9, 10⟩
def oddS : Sp := fntM [oddR]
theorem rowsRdSrc {w : World} {l : List Rd} {ao : Option Addr} (h : RowsAt w ao 5 (l.map Rd.cells)) (own : X.Own) : Src w own ao l.length (rdC l) := by
  have := h.src (by omega) (by intro q hq; obtain ⟨x, _, rfl⟩ := List.mem_map.1 hq; rfl) own
  rwa [List.length_map] at this
theorem rdC_len (l : List Rd) : (rdC l).length = l.length * 5 := by
  rw [rdC, length_flatten (k := 5) (by intro q hq; obtain ⟨x, _, rfl⟩ := List.mem_map.1 hq; rfl), List.length_map]
theorem rdC_one (l : List Rd) : (rdC l).all isOne = true := by
  rw [List.all_eq_true]; intro v hv
  obtain ⟨q, hq, hv⟩ := List.mem_flatten.1 hv
  obtain ⟨x, _, rfl⟩ := List.mem_map.1 hq
  simp [Rd.cells] at hv
  rcases hv with rfl | rfl | rfl | rfl | rfl <;> rfl
theorem mkSpan_any (a b : Int) (w : World) :
    CallsR Tryd.prog 63 [.int .i64 a, .int .i64 b] w (fun v _ => v = .agg ⟨[.int .i64 a, .int .i64 b]⟩) := by
  refine CallsR.of_SX (n := 8) (rs := [.cell 4 23]) Tryd.func63 rfl rfl rfl rfl ?_
  show SX _ _ _ ⟨[(0, .int .i64 a), (1, .int .i64 b)], [], []⟩
  refine SX.seq ?_
  refine SX.region ?_
  refine SXL.alloc zp_23 ?_; intro b0
  refine SXL.nil ?_
  refine thenQ.normal ?_
  refine SX.seq ?_
  refine SX.region ?_
  refine SXL.move rfl ?_
  refine SXL.move rfl ?_
  refine SXL.buildS pl_23 zp_23 rfl rfl ?_
  refine SXL.store 0 sz_23 rfl rfl rfl rfl rfl rfl ?_
  refine SXL.nil ?_
  refine thenQ.normal ?_
  refine SX.ret ?_
  refine retQ.one (ResAt.cellNo 0 sh_23 rfl rfl rfl) ?_
  rfl
theorem mkRd_any (x : Rd) (w : World) :
    CallsR Tryd.prog 69 [.int .i64 x.num, .int .i64 x.wk, .int .i64 x.bu, .int .i64 x.s0, .int .i64 x.s1] w (fun v _ => v = .agg ⟨x.cells⟩) := by
  refine CallsR.of_SX (n := 18) (rs := [.cell 10 54]) Tryd.func69 rfl rfl rfl rfl ?_
  show SX _ _ _ ⟨[(0, .int .i64 x.num), (1, .int .i64 x.wk), (2, .int .i64 x.bu), (3, .int .i64 x.s0), (4, .int .i64 x.s1)], [], []⟩
  refine SX.seq ?_
  refine SX.region ?_
  refine SXL.alloc zp_54 ?_; intro b0
  refine SXL.nil ?_
  refine thenQ.normal ?_
  refine SX.seq ?_
  refine SX.region ?_
  refine SXL.move rfl ?_
  refine SXL.move rfl ?_
  refine SXL.move rfl ?_
  refine SXL.move rfl ?_
  refine SXL.move rfl ?_
  refine SXL.call1 (.agg ⟨[.int .i64 x.s0, .int .i64 x.s1]⟩) fn_63 rfl (fun w hI => mkSpan_any _ _ _) ?_
  refine SXL.buildS pl_54 zp_54 rfl rfl ?_
  refine SXL.store 0 sz_54 rfl rfl rfl rfl rfl rfl ?_
  refine SXL.nil ?_
  refine thenQ.normal ?_
  refine SX.ret ?_
  refine retQ.one (ResAt.cellNo 0 sh_54 rfl rfl rfl) ?_
  rfl
set_option maxHeartbeats 1000000 in
theorem fountain_any (more : List Rd) (mo : Option Addr) (mc : Nat) (hm : more.length ≤ 1000) (w : World) (h : RowsAt w mo 5 (more.map Rd.cells)) :
    CallsR Tryd.prog 67 [.slice mo more.length mc] w (SpR (fntM more)) := by
  refine CallsR.of_SX (n := 17) (rs := [.cell 2 27]) Tryd.func67 rfl rfl rfl rfl ?_
  show SX _ _ _ ⟨[(0, .slice mo more.length mc)], [], []⟩
  refine SX.seq ?_
  refine SX.region ?_
  refine SXL.alloc zp_27 ?_; intro b0
  refine SXL.nil ?_
  refine thenQ.normal ?_
  refine SX.seq ?_
  refine SX.region ?_
  refine SXL.call1 (.agg ⟨[.int .i64 60, .int .i64 70]⟩) fn_63 rfl (fun w hI => mkSpan_any _ _ _) ?_
  refine SXL.call1 (.agg ⟨[.int .i64 3, .int .i64 5]⟩) fn_63 rfl (fun w hI => mkSpan_any _ _ _) ?_
  refine SXL.call1 (.agg ⟨[.int .i64 0, .int .i64 3]⟩) fn_63 rfl (fun w hI => mkSpan_any _ _ _) ?_
  refine SXL.call1 (.agg ⟨[.int .i64 5, .int .i64 12]⟩) fn_63 rfl (fun w hI => mkSpan_any _ _ _) ?_
  refine SXL.buildS pl_61 zp_61 rfl rfl ?_
  refine SXL.call1 (.agg ⟨[.int .i64 4, .int .i64 9]⟩) fn_63 rfl (fun w hI => mkSpan_any _ _ _) ?_
  refine SXL.call1 (.agg ⟨[.int .i64 10, .int .i64 25]⟩) fn_63 rfl (fun w hI => mkSpan_any _ _ _) ?_
  refine SXL.buildS pl_61 zp_61 rfl rfl ?_
  refine SXL.buildSlice et_24 zp_61 rfl rfl rfl rfl ?_; intro b1
  refine SXL.call1 (.agg ⟨(Rd.mk 1 0 10 18 20).cells⟩) fn_69 rfl (fun w hI => mkRd_any ⟨1, 0, 10, 18, 20⟩ _) ?_
  refine SXL.buildSlice et_25 zp_54 rfl rfl rfl rfl ?_; intro b2
  refine SXL.move rfl ?_
  refine SXL.append (r := ⟨some b2, 1, []⟩) (cells := (Rd.mk 1 0 10 18 20).cells) 2 ap_25 rfl rfl ⟨rfl, Nat.le_refl _, (by simp only [maxLen]; omega), (fun h => by cases h), (fun _ _ => rfl)⟩ rfl (rowsRdSrc h _) (rdC_len _) (rdC_one _) ⟨by simp only [maxLen]; omega, by omega⟩ ?_; intro r_15 o_15; rw [show 1 + more.length = (fntM more).reads.length from by simp [fntM]; omega] at o_15 ⊢
  refine SXL.buildS pl_27 zp_27 rfl rfl ?_
  refine SXL.store 0 sz_27 rfl rfl rfl rfl rfl rfl ?_
  refine SXL.nil ?_
  refine thenQ.normal ?_
  refine SX.ret ?_
  refine retQ.sel [1, 2] rfl rfl ?_
  refine retQ.one (ResAt.cellNo 0 sh_27 rfl rfl rfl) ?_
  exact ⟨⟨some b1, 2, []⟩, r_15, ⟨rfl, Nat.le_refl _, (by simp only [maxLen]; omega), (fun h => by cases h), (fun _ _ => rfl)⟩, o_15, rfl, rfl⟩
theorem odd_any (w : World) :
    CallsR Tryd.prog 68 [] w (SpR oddS) := by
  refine CallsR.of_SX (n := 4) (rs := [.cell 0 27]) Tryd.func68 rfl rfl rfl rfl ?_
  show SX _ _ _ ⟨[], [], []⟩
  refine SX.seq ?_
  refine SX.region ?_
  refine SXL.alloc zp_27 ?_; intro b0
  refine SXL.nil ?_
  refine thenQ.normal ?_
  refine SX.seq ?_
  refine SX.region ?_
  refine SXL.call1 (.agg ⟨oddR.cells⟩) fn_69 rfl (fun w hI => mkRd_any oddR _) ?_
  refine SXL.buildSlice et_25 zp_54 rfl rfl rfl rfl ?_; intro b1
  refine SXL.callF (SpR oddS) fn_67 rfl (fun w hI => fountain_any [oddR] (some ⟨b1, 0, none⟩) 1 (by simp) w (RowsAt.ofOwn hI (i := 1) rfl (fun i r hr j u hj => by
        have hi : i = 0 := by have := (List.getElem?_eq_some_iff.1 hr).1; simpa using this
        subst hi
        simp at hr; subst hr
        rw [Nat.zero_mul, Nat.zero_add]; exact hj))) ?_; rintro _ _ ⟨r1, r2, o1, o2, rfl, rfl⟩
  refine SXL.store 0 sz_27 rfl rfl rfl rfl rfl rfl ?_
  refine SXL.nil ?_
  refine thenQ.normal ?_
  refine SX.ret ?_
  refine retQ.sel [2, 3] rfl rfl ?_
  refine retQ.one (ResAt.cellNo 0 sh_27 rfl rfl rfl) ?_
  exact ⟨r1, r2, o1, o2, rfl, rfl⟩
theorem is_any (l m : List Int) (e : Int) (lo mo : Option Addr) (lc mc : Nat) (hl : l.length ≤ 1000000) (w : World) (h1 : RowsAt w lo 1 (ones l)) (h2 : RowsAt w mo 1 (ones m)) :
    CallsR Tryd.prog 108 [.slice lo l.length lc, .int .i64 e, .slice mo m.length mc] w (fun v _ => v = .bool (decide (e = 0 ∧ l = m))) := by
  refine CallsR.of_SX (n := 14) (rs := [.tmp 6]) Tryd.func108 rfl rfl rfl rfl ?_
  show SX _ _ _ ⟨[(0, .slice lo l.length lc), (1, .int .i64 e), (2, .slice mo m.length mc)], [], []⟩
  refine SX.seq ?_
  refine SX.region ?_
  refine SXL.assign rfl ?_
  refine SXL.nil ?_
  refine thenQ.normal ?_
  refine SX.seq ?_
  refine SX.region ?_
  refine SXL.move rfl ?_
  refine SXL.eqlI rfl rfl ?_
  refine SXL.move rfl ?_
  apply SXL.andG 3
  case hl => exact rfl
  case hd => exact rfl
  case hg => exact rfl
  case ht =>
    intro g1
    refine SXL.move rfl ?_
    refine SXL.move rfl ?_
    refine SXL.call1 (.bool (decide (l = m))) fn_28 rfl (fun w hI => sameInts_any l m lo mo lc mc hl _ (h1.inv hI) (h2.inv hI)) ?_
    exact SXL.nil (segQ.mk (.skip rfl (.skip rfl (.skip rfl (.skip rfl (EnvSub.refl _))))) rfl rfl ⟨rfl, rfl⟩)
  case hf =>
    intro g1
    refine SXL.pass rfl rfl rfl ?_
    refine SXL.pass rfl rfl rfl ?_
    refine SXL.pass rfl rfl rfl ?_
    exact SXL.nil (segQ.mk (.skip rfl (.skip rfl (.skip rfl (.skip rfl (EnvSub.refl _))))) rfl rfl rfl)
  refine SXL.assign rfl ?_
  refine SXL.nil ?_
  refine thenQ.normal ?_
  refine SX.ret ?_
  refine retQ.one (ResAt.tmp rfl) ?_
  first | rfl | assumption
theorem fx_valid : SpP fnt := by decide +kernel
theorem fx_read : readLo fnt ⟨1, 0, 10, 18, 20⟩ = 26 ∧ readHi fnt ⟨1, 0, 10, 18, 20⟩ = 33 ∧ readE fnt ⟨1, 0, 10, 18, 20⟩ = 0 := by decide +kernel
theorem fx_can : SpP fnt ∧ TrueP fnt := by decide +kernel
theorem fx_told : toldL fnt 0 = [3, 4, 5] ∧ toldE fnt 0 = 0 := by decide +kernel
theorem fx_gives : givesLo fnt 1 = 18 ∧ givesHi fnt 1 = 33 ∧ toldE fnt 1 = 0 := by decide +kernel
theorem fx_known : knownV fnt 2 10 = 2 ∧ toldE fnt 2 = 0 := by decide +kernel
theorem fx_fails : wkV fnt (loI fnt 20) = 1 ∧ wkE fnt (loI fnt 20) = 0 := by decide +kernel
theorem fx_surely : wkV fnt (hiI fnt 26) = 2 ∧ wkE fnt (hiI fnt 26) = 0 := by decide +kernel
theorem fx_poor : bestR fnt (poorI fnt) = 3 ∧ bestL fnt 0 (poorI fnt) = [26, 18, 10, 2] := by decide +kernel
theorem fx_rich : bestR fnt (richI fnt) = 4 ∧ bestL fnt 10 (richI fnt) = [33, 33, 25, 25] := by decide +kernel
theorem fx_fill : fillLo fnt 3 1 = 144 ∧ fillHi fnt 3 1 = 1800 ∧ fillE fnt 3 1 = 0 := by decide +kernel
theorem fx_look : lookW fnt = 2 ∧ lookV fnt = 23 := by decide +kernel
theorem fx_rests : restsL fnt 0 = [1] := by decide +kernel
theorem fx_wrong : wrongL oddS = [3] ∧ wrongE oddS = 0 := by decide +kernel
theorem fx_strike : strikeS oddS [3] = fnt ∧ strikeE oddS [3] = 0 := by decide +kernel
end Go.Proofs.YtknflipongbngaaDoor

/- The examples: the walk. -/
namespace Go.Proofs.YtknflipongbngaaDoor
open Go.X Go.S Go.RowKit
set_option maxHeartbeats 8000000 in
set_option maxRecDepth 100000 in
theorem alive_any (w : World) (hg : Gl w) :
    CallsR Tryd.prog 54 [] w (fun v _ => v = .bool true) := by
  refine CallsR.of_SX (n := 219) (rs := [.tmp 0]) Tryd.func54 rfl rfl rfl rfl ?_
  show SX _ _ _ ⟨[], [], []⟩
  refine SX.seq ?_
  refine SX.region ?_
  refine SXL.assign rfl ?_
  refine SXL.nil ?_
  refine thenQ.normal ?_
  refine SX.cutW (α := Nat) [0] rfl (fun b1 => [(2, .int .i64 0), (1, .pointer (some ⟨b1, 0, none⟩))]) (fun b1 => [(b1, .cells ⟨[.int .i64 26, .int .i64 33]⟩ 23 (0, 0))]) (fun b1 => []) (fun b1 => True) ?_ ?_
  · refine SX.region ?_
    refine SXL.callF (SpR fnt) fn_67 rfl (fun w hI => fountain_any [] none 0 (by simp) w (.nil _ _ _)) ?_; rintro _ _ ⟨ra28, rb28, oa28, ob28, rfl, rfl⟩
    refine SXL.call1 (.agg ⟨(Rd.mk 1 0 10 18 20).cells⟩) fn_69 rfl (fun w hI => mkRd_any ⟨1, 0, 10, 18, 20⟩ _) ?_
    refine SXL.call1 (.tuple ⟨[.agg ⟨[.int .i64 26, .int .i64 33]⟩, .int .i64 0]⟩) fn_30 rfl (fun w hI => (sread_any fnt ra28.addr rb28.addr ra28.cap rb28.cap ⟨1, 0, 10, 18, 20⟩ (by decide) (by decide) _ (hg.inv hI) (spAtOwn hI oa28 ob28 (i := 0) (j := 1) rfl rfl)).eqv (by rw [fx_read.1, fx_read.2.1, fx_read.2.2])) ?_
    refine SXL.move rfl ?_
    refine SXL.extract rfl rfl ?_
    refine SXL.extract rfl rfl ?_
    refine SXL.alloc zp_23 ?_; intro b2
    refine SXL.store 2 sz_23 rfl rfl rfl rfl rfl rfl ?_
    refine SXL.assign rfl ?_
    refine SXL.nil ?_
    refine thenQ.normal ?_
    refine ⟨(_), MeetsW.mkS [2] ⟨rfl, rfl, trivial⟩ ⟨rfl, trivial⟩ rfl, trivial⟩
  rintro b1 _
  refine SX.cutW (α := Nat) [0, 2] rfl (fun b1 => [(3, .bool true), (4, .int .i64 0), (1, .pointer (some ⟨b1, 0, none⟩))]) (fun b1 => [(b1, .cells ⟨[.int .i64 26, .int .i64 33]⟩ 23 (0, 0))]) (fun b1 => []) (fun b1 => True) ?_ ?_
  · refine SX.region ?_
    refine SXL.callF (SpR fnt) fn_67 rfl (fun w hI => fountain_any [] none 0 (by simp) w (.nil _ _ _)) ?_; rintro _ _ ⟨ra34, rb34, oa34, ob34, rfl, rfl⟩
    refine SXL.call1 (.tuple ⟨[.bool true, .int .i64 0]⟩) fn_18 rfl (fun w hI => (scan_any fnt ra34.addr rb34.addr ra34.cap rb34.cap (by decide) (by decide) _ (hg.inv hI) (spAtOwn hI oa34 ob34 (i := 1) (j := 2) rfl rfl)).eqv (by rw [decide_eq_true fx_can, if_pos fx_valid])) ?_
    refine SXL.move rfl ?_
    refine SXL.extract rfl rfl ?_
    refine SXL.extract rfl rfl ?_
    refine SXL.assign rfl ?_
    refine SXL.assign rfl ?_
    refine SXL.nil ?_
    refine thenQ.normal ?_
    refine ⟨(_), MeetsW.mkS [0] ⟨rfl, rfl, rfl, trivial⟩ ⟨rfl, rfl, trivial⟩ rfl, trivial⟩
  rintro b1 _
  refine SX.cutW (α := Nat × Sl) [0, 2, 3, 4] rfl (fun ⟨b1, q40⟩ => [(6, .int .i64 0), (1, .pointer (some ⟨b1, 0, none⟩)), (5, q40.val 3)]) (fun ⟨b1, q40⟩ => [(b1, .cells ⟨[.int .i64 26, .int .i64 33]⟩ 23 (0, 0)), q40.ent 3 (ints [3, 4, 5])]) (fun ⟨b1, q40⟩ => []) (fun ⟨b1, q40⟩ => q40.Ok 3 1 (ints [3, 4, 5])) ?_ ?_
  · refine SX.region ?_
    refine SXL.callF (SpR fnt) fn_67 rfl (fun w hI => fountain_any [] none 0 (by simp) w (.nil _ _ _)) ?_; rintro _ _ ⟨ra39, rb39, oa39, ob39, rfl, rfl⟩
    refine SXL.callF (IsR2 [3, 4, 5] 0) fn_20 rfl (fun w hI => (srains_any fnt ra39.addr rb39.addr ra39.cap rb39.cap (by decide) (by decide) w (hg.inv hI) (spAtOwn hI oa39 ob39 (i := 1) (j := 2) rfl rfl)).mono (fun v own h => by rw [fx_told.1, fx_told.2] at h; exact h)) ?_; rintro _ _ ⟨q40, u40, rfl, rfl⟩
    refine SXL.move rfl ?_
    refine SXL.extract rfl rfl ?_
    refine SXL.extract rfl rfl ?_
    refine SXL.assign rfl ?_
    refine SXL.assign rfl ?_
    refine SXL.nil ?_
    refine thenQ.normal ?_
    refine ⟨(_, _), MeetsW.mkS [0, 3] ⟨rfl, rfl, rfl, trivial⟩ ⟨rfl, rfl, rfl, rfl, trivial⟩ rfl, u40⟩
  rintro ⟨b1, q40⟩ u40
  refine SX.cutW (α := Nat × Nat × Sl) [0, 2, 3, 4, 6] rfl (fun ⟨b1, b7, q40⟩ => [(8, .int .i64 0), (1, .pointer (some ⟨b1, 0, none⟩)), (7, .pointer (some ⟨b7, 0, none⟩)), (5, q40.val 3)]) (fun ⟨b1, b7, q40⟩ => [(b1, .cells ⟨[.int .i64 26, .int .i64 33]⟩ 23 (0, 0)), (b7, .cells ⟨[.int .i64 18, .int .i64 33]⟩ 23 (0, 0)), q40.ent 3 (ints [3, 4, 5])]) (fun ⟨b1, b7, q40⟩ => []) (fun ⟨b1, b7, q40⟩ => q40.Ok 3 1 (ints [3, 4, 5])) ?_ ?_
  · refine SX.region ?_
    refine SXL.callF (SpR fnt) fn_67 rfl (fun w hI => fountain_any [] none 0 (by simp) w (.nil _ _ _)) ?_; rintro _ _ ⟨ra44, rb44, oa44, ob44, rfl, rfl⟩
    refine SXL.call1 (.tuple ⟨[.agg ⟨[.int .i64 18, .int .i64 33]⟩, .int .i64 0]⟩) fn_22 rfl (fun w hI => (sgives_any fnt ra44.addr rb44.addr ra44.cap rb44.cap 1 (by decide) (by decide) _ (hg.inv hI) (spAtOwn hI oa44 ob44 (i := 2) (j := 3) rfl rfl)).eqv (by rw [fx_gives.1, fx_gives.2.1, fx_gives.2.2])) ?_
    refine SXL.move rfl ?_
    refine SXL.extract rfl rfl ?_
    refine SXL.extract rfl rfl ?_
    refine SXL.alloc zp_23 ?_; intro b4
    refine SXL.store 4 sz_23 rfl rfl rfl rfl rfl rfl ?_
    refine SXL.assign rfl ?_
    refine SXL.nil ?_
    refine thenQ.normal ?_
    refine ⟨(_, _, _), MeetsW.mkS [0, 4, 1] ⟨rfl, rfl, rfl, rfl, trivial⟩ ⟨rfl, rfl, rfl, rfl, rfl, trivial⟩ rfl, u40⟩
  rintro ⟨b1, b7, q40⟩ u40
  refine SX.cutW (α := Nat × Nat × Sl) [0, 2, 3, 4, 6, 8] rfl (fun ⟨b1, b7, q40⟩ => [(9, .int .u8 2), (10, .int .i64 0), (1, .pointer (some ⟨b1, 0, none⟩)), (7, .pointer (some ⟨b7, 0, none⟩)), (5, q40.val 3)]) (fun ⟨b1, b7, q40⟩ => [(b1, .cells ⟨[.int .i64 26, .int .i64 33]⟩ 23 (0, 0)), (b7, .cells ⟨[.int .i64 18, .int .i64 33]⟩ 23 (0, 0)), q40.ent 3 (ints [3, 4, 5])]) (fun ⟨b1, b7, q40⟩ => []) (fun ⟨b1, b7, q40⟩ => q40.Ok 3 1 (ints [3, 4, 5])) ?_ ?_
  · refine SX.region ?_
    refine SXL.callF (SpR fnt) fn_67 rfl (fun w hI => fountain_any [] none 0 (by simp) w (.nil _ _ _)) ?_; rintro _ _ ⟨ra49, rb49, oa49, ob49, rfl, rfl⟩
    refine SXL.call1 (.tuple ⟨[.int .u8 2, .int .i64 0]⟩) fn_24 rfl (fun w hI => (sknown_any fnt ra49.addr rb49.addr ra49.cap rb49.cap 2 10 (by decide) (by decide) _ (hg.inv hI) (spAtOwn hI oa49 ob49 (i := 3) (j := 4) rfl rfl)).eqv (by rw [fx_known.1, fx_known.2])) ?_
    refine SXL.move rfl ?_
    refine SXL.extract rfl rfl ?_
    refine SXL.extract rfl rfl ?_
    refine SXL.assign rfl ?_
    refine SXL.assign rfl ?_
    refine SXL.nil ?_
    refine thenQ.normal ?_
    refine ⟨(_, _, _), MeetsW.mkS [0, 1, 2] ⟨rfl, rfl, rfl, rfl, rfl, trivial⟩ ⟨rfl, rfl, rfl, rfl, rfl, rfl, trivial⟩ rfl, u40⟩
  rintro ⟨b1, b7, q40⟩ u40
  refine SX.cutW (α := Nat × Nat × Sl) [0, 2, 3, 4, 6, 8, 9, 10] rfl (fun ⟨b1, b7, q40⟩ => [(11, .int .i64 1), (12, .int .i64 0), (1, .pointer (some ⟨b1, 0, none⟩)), (7, .pointer (some ⟨b7, 0, none⟩)), (5, q40.val 3)]) (fun ⟨b1, b7, q40⟩ => [(b1, .cells ⟨[.int .i64 26, .int .i64 33]⟩ 23 (0, 0)), (b7, .cells ⟨[.int .i64 18, .int .i64 33]⟩ 23 (0, 0)), q40.ent 3 (ints [3, 4, 5])]) (fun ⟨b1, b7, q40⟩ => []) (fun ⟨b1, b7, q40⟩ => q40.Ok 3 1 (ints [3, 4, 5])) ?_ ?_
  · refine SX.region ?_
    refine SXL.callF (SpR fnt) fn_67 rfl (fun w hI => fountain_any [] none 0 (by simp) w (.nil _ _ _)) ?_; rintro _ _ ⟨ra54, rb54, oa54, ob54, rfl, rfl⟩
    refine SXL.call1 (.tuple ⟨[.int .i64 1, .int .i64 0]⟩) fn_42 rfl (fun w hI => (sfails_any fnt ra54.addr rb54.addr ra54.cap rb54.cap 20 (by decide) (by decide) _ (hg.inv hI) (spAtOwn hI oa54 ob54 (i := 3) (j := 4) rfl rfl)).eqv (by rw [fx_fails.1, fx_fails.2])) ?_
    refine SXL.move rfl ?_
    refine SXL.extract rfl rfl ?_
    refine SXL.extract rfl rfl ?_
    refine SXL.assign rfl ?_
    refine SXL.assign rfl ?_
    refine SXL.nil ?_
    refine thenQ.normal ?_
    refine ⟨(_, _, _), MeetsW.mkS [0, 1, 2] ⟨rfl, rfl, rfl, rfl, rfl, trivial⟩ ⟨rfl, rfl, rfl, rfl, rfl, rfl, rfl, rfl, trivial⟩ rfl, u40⟩
  rintro ⟨b1, b7, q40⟩ u40
  refine SX.cutW (α := Nat × Nat × Sl) [0, 2, 3, 4, 6, 8, 9, 10, 11, 12] rfl (fun ⟨b1, b7, q40⟩ => [(13, .int .i64 2), (14, .int .i64 0), (1, .pointer (some ⟨b1, 0, none⟩)), (7, .pointer (some ⟨b7, 0, none⟩)), (5, q40.val 3)]) (fun ⟨b1, b7, q40⟩ => [(b1, .cells ⟨[.int .i64 26, .int .i64 33]⟩ 23 (0, 0)), (b7, .cells ⟨[.int .i64 18, .int .i64 33]⟩ 23 (0, 0)), q40.ent 3 (ints [3, 4, 5])]) (fun ⟨b1, b7, q40⟩ => []) (fun ⟨b1, b7, q40⟩ => q40.Ok 3 1 (ints [3, 4, 5])) ?_ ?_
  · refine SX.region ?_
    refine SXL.callF (SpR fnt) fn_67 rfl (fun w hI => fountain_any [] none 0 (by simp) w (.nil _ _ _)) ?_; rintro _ _ ⟨ra59, rb59, oa59, ob59, rfl, rfl⟩
    refine SXL.call1 (.tuple ⟨[.int .i64 2, .int .i64 0]⟩) fn_44 rfl (fun w hI => (ssurely_any fnt ra59.addr rb59.addr ra59.cap rb59.cap 26 (by decide) (by decide) _ (hg.inv hI) (spAtOwn hI oa59 ob59 (i := 3) (j := 4) rfl rfl)).eqv (by rw [fx_surely.1, fx_surely.2])) ?_
    refine SXL.move rfl ?_
    refine SXL.extract rfl rfl ?_
    refine SXL.extract rfl rfl ?_
    refine SXL.assign rfl ?_
    refine SXL.assign rfl ?_
    refine SXL.nil ?_
    refine thenQ.normal ?_
    refine ⟨(_, _, _), MeetsW.mkS [0, 1, 2] ⟨rfl, rfl, rfl, rfl, rfl, trivial⟩ ⟨rfl, rfl, rfl, rfl, rfl, rfl, rfl, rfl, rfl, rfl, trivial⟩ rfl, u40⟩
  rintro ⟨b1, b7, q40⟩ u40
  refine SX.cutW (α := Nat × Nat × Sl × Sl) [0, 2, 3, 4, 6, 8, 9, 10, 11, 12, 13, 14] rfl (fun ⟨b1, b7, q40, q65⟩ => [(15, .int .i64 3), (17, .int .i64 0), (1, .pointer (some ⟨b1, 0, none⟩)), (7, .pointer (some ⟨b7, 0, none⟩)), (5, q40.val 3), (16, q65.val 4)]) (fun ⟨b1, b7, q40, q65⟩ => [(b1, .cells ⟨[.int .i64 26, .int .i64 33]⟩ 23 (0, 0)), (b7, .cells ⟨[.int .i64 18, .int .i64 33]⟩ 23 (0, 0)), q40.ent 3 (ints [3, 4, 5]), q65.ent 3 (ints [26, 18, 10, 2])]) (fun ⟨b1, b7, q40, q65⟩ => []) (fun ⟨b1, b7, q40, q65⟩ => q40.Ok 3 1 (ints [3, 4, 5]) ∧ q65.Ok 4 1 (ints [26, 18, 10, 2])) ?_ ?_
  · refine SX.region ?_
    refine SXL.callF (SpR fnt) fn_67 rfl (fun w hI => fountain_any [] none 0 (by simp) w (.nil _ _ _)) ?_; rintro _ _ ⟨ra64, rb64, oa64, ob64, rfl, rfl⟩
    refine SXL.callF (IsR3 3 [26, 18, 10, 2] 0) fn_46 rfl (fun w hI => (spoor_any fnt ra64.addr rb64.addr ra64.cap rb64.cap (by decide) (by decide) w (hg.inv hI) (spAtOwn hI oa64 ob64 (i := 3) (j := 4) rfl rfl)).mono (fun v own h => by rw [fx_poor.1, fx_poor.2, fx_told.2] at h; exact h)) ?_; rintro _ _ ⟨q65, u65, rfl, rfl⟩
    refine SXL.move rfl ?_
    refine SXL.extract rfl rfl ?_
    refine SXL.extract rfl rfl ?_
    refine SXL.extract rfl rfl ?_
    refine SXL.assign rfl ?_
    refine SXL.assign rfl ?_
    refine SXL.assign rfl ?_
    refine SXL.nil ?_
    refine thenQ.normal ?_
    refine ⟨(_, _, _, _), MeetsW.mkS [0, 1, 2, 5] ⟨rfl, rfl, rfl, rfl, rfl, rfl, trivial⟩ ⟨rfl, rfl, rfl, rfl, rfl, rfl, rfl, rfl, rfl, rfl, rfl, rfl, trivial⟩ rfl, ⟨u40, u65⟩⟩
  rintro ⟨b1, b7, q40, q65⟩ ⟨u40, u65⟩
  refine SX.cutW (α := Nat × Nat × Sl × Sl × Sl) [0, 2, 3, 4, 6, 8, 9, 10, 11, 12, 13, 14, 15, 17] rfl (fun ⟨b1, b7, q40, q65, q71⟩ => [(18, .int .i64 4), (20, .int .i64 0), (1, .pointer (some ⟨b1, 0, none⟩)), (7, .pointer (some ⟨b7, 0, none⟩)), (5, q40.val 3), (16, q65.val 4), (19, q71.val 4)]) (fun ⟨b1, b7, q40, q65, q71⟩ => [(b1, .cells ⟨[.int .i64 26, .int .i64 33]⟩ 23 (0, 0)), (b7, .cells ⟨[.int .i64 18, .int .i64 33]⟩ 23 (0, 0)), q40.ent 3 (ints [3, 4, 5]), q65.ent 3 (ints [26, 18, 10, 2]), q71.ent 3 (ints [33, 33, 25, 25])]) (fun ⟨b1, b7, q40, q65, q71⟩ => []) (fun ⟨b1, b7, q40, q65, q71⟩ => q40.Ok 3 1 (ints [3, 4, 5]) ∧ q65.Ok 4 1 (ints [26, 18, 10, 2]) ∧ q71.Ok 4 1 (ints [33, 33, 25, 25])) ?_ ?_
  · refine SX.region ?_
    refine SXL.callF (SpR fnt) fn_67 rfl (fun w hI => fountain_any [] none 0 (by simp) w (.nil _ _ _)) ?_; rintro _ _ ⟨ra70, rb70, oa70, ob70, rfl, rfl⟩
    refine SXL.callF (IsR3 4 [33, 33, 25, 25] 0) fn_48 rfl (fun w hI => (srich_any fnt ra70.addr rb70.addr ra70.cap rb70.cap (by decide) (by decide) w (hg.inv hI) (spAtOwn hI oa70 ob70 (i := 4) (j := 5) rfl rfl)).mono (fun v own h => by rw [fx_rich.1, fx_rich.2, fx_told.2] at h; exact h)) ?_; rintro _ _ ⟨q71, u71, rfl, rfl⟩
    refine SXL.move rfl ?_
    refine SXL.extract rfl rfl ?_
    refine SXL.extract rfl rfl ?_
    refine SXL.extract rfl rfl ?_
    refine SXL.assign rfl ?_
    refine SXL.assign rfl ?_
    refine SXL.assign rfl ?_
    refine SXL.nil ?_
    refine thenQ.normal ?_
    refine ⟨(_, _, _, _, _), MeetsW.mkS [0, 1, 2, 3, 6] ⟨rfl, rfl, rfl, rfl, rfl, rfl, rfl, trivial⟩ ⟨rfl, rfl, rfl, rfl, rfl, rfl, rfl, rfl, rfl, rfl, rfl, rfl, rfl, rfl, trivial⟩ rfl, ⟨u40, u65, u71⟩⟩
  rintro ⟨b1, b7, q40, q65, q71⟩ ⟨u40, u65, u71⟩
  refine SX.cutW (α := Unit) [0, 2, 4, 6, 8, 10] rfl (fun _ => []) (fun _ => []) (fun _ => []) (fun _ => True) ?_ ?_
  · refine SX.seq ?_
    refine SX.draw 77 (by kernel_rfl) (by kernel_rfl) {} ?_
    refine SXA.take 0 18 rfl (by kernel_rfl) rfl ?_
    refine SXL.move rfl ?_
    refine SXL.neqF rfl rfl ?_
    refine SXL.move rfl ?_
    refine SXL.loadNo 0 sh_23 rfl rfl rfl ?_
    refine SXL.call1 (.agg ⟨[.int .i64 26, .int .i64 33]⟩) fn_63 rfl (fun w hI => mkSpan_any _ _ _) ?_
    refine SXL.neqVF (xs := [26, 33]) eq_23 eg_23 sh_23 rfl rfl rfl ?_
    refine SXL.pickAt (EnvSub.refl _) rfl rfl ?_ rfl rfl
    refine SXL.move rfl ?_
    refine SXL.move rfl ?_
    refine SXL.neqF rfl rfl ?_
    refine SXL.pickAt (EnvSub.refl _) rfl rfl ?_ rfl rfl
    refine SXL.move rfl ?_
    refine SXL.move rfl ?_
    refine SXL.notF rfl ?_
    refine SXL.pickAt (EnvSub.refl _) rfl rfl ?_ rfl rfl
    refine SXL.move rfl ?_
    refine SXL.move rfl ?_
    refine SXL.move rfl ?_
    refine SXL.nil ⟨rfl, rfl, rfl, ?_⟩
    refine SXA.all [18] (by kernel_rfl) rfl ⟨⟨?_, rfl⟩, trivial⟩
    refine (show SXL _ _ [_] _ _ from ?_)
    refine SXL.buildSlice et_35 zp_3 rfl rfl rfl rfl ?_; intro b5
    refine SXL.nil (stepQ.mk _ rfl rfl ?_)
    refine SXA.take 19 43 rfl (by kernel_rfl) rfl ?_
    refine SXL.call1 (.bool true) fn_108 rfl (fun w hI => (is_any [3, 4, 5] [3, 4, 5] 0 q40.addr (some ⟨b5, 0, none⟩) q40.cap 3 (by decide) _ (slOnes hI u40 (i := 2) rfl) (ownOnes hI (i := 5) [3, 4, 5] rfl)).eqv (congrArg Value.bool (decide_eq_true ⟨rfl, rfl⟩))) ?_
    refine SXL.notF rfl ?_
    refine SXL.pickAt (EnvSub.refl _) rfl rfl ?_ rfl rfl
    refine SXL.move rfl ?_
    refine SXL.move rfl ?_
    refine SXL.neqF rfl rfl ?_
    refine SXL.pickAt (EnvSub.refl _) rfl rfl ?_ rfl rfl
    refine SXL.move rfl ?_
    refine SXL.loadNo 1 sh_23 rfl rfl rfl ?_
    refine SXL.call1 (.agg ⟨[.int .i64 18, .int .i64 33]⟩) fn_63 rfl (fun w hI => mkSpan_any _ _ _) ?_
    refine SXL.neqVF (xs := [18, 33]) eq_23 eg_23 sh_23 rfl rfl rfl ?_
    refine SXL.pickAt (EnvSub.refl _) rfl rfl ?_ rfl rfl
    refine SXL.move rfl ?_
    refine SXL.move rfl ?_
    refine SXL.neqF rfl rfl ?_
    refine SXL.pickAt (EnvSub.refl _) rfl rfl ?_ rfl rfl
    refine SXL.move rfl ?_
    refine SXL.move rfl ?_
    refine SXL.neqF rfl rfl ?_
    refine SXL.pickAt (EnvSub.refl _) rfl rfl ?_ rfl rfl
    refine SXL.move rfl ?_
    refine SXL.move rfl ?_
    refine SXL.neqF rfl rfl ?_
    refine SXL.pickAt (EnvSub.refl _) rfl rfl ?_ rfl rfl
    refine SXL.move rfl ?_
    refine SXL.move rfl ?_
    refine SXL.neqF rfl rfl ?_
    refine SXL.pickAt (EnvSub.refl _) rfl rfl ?_ rfl rfl
    refine SXL.move rfl ?_
    refine SXL.move rfl ?_
    refine SXL.neqF rfl rfl ?_
    refine SXL.pickAt (EnvSub.refl _) rfl rfl ?_ rfl rfl
    refine SXL.move rfl ?_
    refine SXL.move rfl ?_
    refine SXL.neqF rfl rfl ?_
    refine SXL.pickAt (EnvSub.refl _) rfl rfl ?_ rfl rfl
    refine SXL.move rfl ?_
    refine SXL.move rfl ?_
    refine SXL.neqF rfl rfl ?_
    refine SXL.pickAt (EnvSub.refl _) rfl rfl ?_ rfl rfl
    refine SXL.move rfl ?_
    refine SXL.move rfl ?_
    refine SXL.move rfl ?_
    refine SXL.nil ⟨rfl, rfl, rfl, ?_⟩
    refine SXA.all [62] (by kernel_rfl) rfl ⟨⟨?_, rfl⟩, trivial⟩
    refine (show SXL _ _ [_] _ _ from ?_)
    refine SXL.buildSlice et_35 zp_3 rfl rfl rfl rfl ?_; intro b6
    refine SXL.nil (stepQ.mk _ rfl rfl ?_)
    refine SXA.take 63 10 rfl (by kernel_rfl) rfl ?_
    refine SXL.call1 (.bool true) fn_108 rfl (fun w hI => (is_any [26, 18, 10, 2] [26, 18, 10, 2] 0 q65.addr (some ⟨b6, 0, none⟩) q65.cap 4 (by decide) _ (slOnes hI u65 (i := 3) rfl) (ownOnes hI (i := 6) [26, 18, 10, 2] rfl)).eqv (congrArg Value.bool (decide_eq_true ⟨rfl, rfl⟩))) ?_
    refine SXL.notF rfl ?_
    refine SXL.pickAt (EnvSub.refl _) rfl rfl ?_ rfl rfl
    refine SXL.move rfl ?_
    refine SXL.move rfl ?_
    refine SXL.neqF rfl rfl ?_
    refine SXL.pickAt (EnvSub.refl _) rfl rfl ?_ rfl rfl
    refine SXL.move rfl ?_
    refine SXL.move rfl ?_
    refine SXL.move rfl ?_
    refine SXL.nil ⟨rfl, rfl, rfl, ?_⟩
    refine SXA.all [73] (by kernel_rfl) rfl ⟨⟨?_, rfl⟩, trivial⟩
    refine (show SXL _ _ [_] _ _ from ?_)
    refine SXL.buildSlice et_35 zp_3 rfl rfl rfl rfl ?_; intro b7
    refine SXL.nil (stepQ.mk _ rfl rfl ?_)
    refine SXA.take 74 3 rfl (by kernel_rfl) rfl ?_
    refine SXL.call1 (.bool true) fn_108 rfl (fun w hI => (is_any [33, 33, 25, 25] [33, 33, 25, 25] 0 q71.addr (some ⟨b7, 0, none⟩) q71.cap 4 (by decide) _ (slOnes hI u71 (i := 4) rfl) (ownOnes hI (i := 7) [33, 33, 25, 25] rfl)).eqv (congrArg Value.bool (decide_eq_true ⟨rfl, rfl⟩))) ?_
    refine SXL.notF rfl ?_
    refine SXL.pickAt (EnvSub.refl _) rfl rfl ?_ rfl rfl
    refine SXL.nil ⟨rfl, rfl, rfl, ?_⟩
    refine SXA.done (by kernel_rfl) ?_
    refine SXL.nil ?_
    refine thenQ.normal ?_
    refine SX.condP (p := False) rfl (fun c151 => ?_) (fun c151 => ?_)
    · exfalso; exact c151
    refine SX.skip ?_
    refine thenQ.normal ?_
    refine ⟨(), MeetsW.mkS [] trivial ⟨rfl, rfl, rfl, rfl, rfl, rfl, trivial⟩ rfl, trivial⟩
  rintro _ _
  refine SX.cutW (α := Nat) [0, 4, 6, 8, 10] rfl (fun b21 => [(2, .int .i64 0), (21, .pointer (some ⟨b21, 0, none⟩))]) (fun b21 => [(b21, .cells ⟨[.int .i64 144, .int .i64 1800]⟩ 23 (0, 0))]) (fun b21 => []) (fun b21 => True) ?_ ?_
  · refine SX.region ?_
    refine SXL.callF (SpR fnt) fn_67 rfl (fun w hI => fountain_any [] none 0 (by simp) w (.nil _ _ _)) ?_; rintro _ _ ⟨ra153, rb153, oa153, ob153, rfl, rfl⟩
    refine SXL.call1 (.tuple ⟨[.agg ⟨[.int .i64 144, .int .i64 1800]⟩, .int .i64 0]⟩) fn_50 rfl (fun w hI => (sfill_any fnt ra153.addr rb153.addr ra153.cap rb153.cap 3 1 (by decide) (by decide) _ (hg.inv hI) (spAtOwn hI oa153 ob153 (i := 0) (j := 1) rfl rfl)).eqv (by rw [fx_fill.1, fx_fill.2.1, fx_fill.2.2])) ?_
    refine SXL.move rfl ?_
    refine SXL.extract rfl rfl ?_
    refine SXL.extract rfl rfl ?_
    refine SXL.alloc zp_23 ?_; intro b2
    refine SXL.store 2 sz_23 rfl rfl rfl rfl rfl rfl ?_
    refine SXL.assign rfl ?_
    refine SXL.nil ?_
    refine thenQ.normal ?_
    refine ⟨(_), MeetsW.mkS [2] ⟨rfl, rfl, trivial⟩ ⟨rfl, rfl, rfl, rfl, rfl, trivial⟩ rfl, trivial⟩
  rintro b21 _
  refine SX.cutW (α := Nat) [0, 2, 6, 8, 10] rfl (fun b21 => [(22, .int .i64 2), (23, .int .i64 23), (4, .int .i64 0), (21, .pointer (some ⟨b21, 0, none⟩))]) (fun b21 => [(b21, .cells ⟨[.int .i64 144, .int .i64 1800]⟩ 23 (0, 0))]) (fun b21 => []) (fun b21 => True) ?_ ?_
  · refine SX.region ?_
    refine SXL.callF (SpR fnt) fn_67 rfl (fun w hI => fountain_any [] none 0 (by simp) w (.nil _ _ _)) ?_; rintro _ _ ⟨ra158, rb158, oa158, ob158, rfl, rfl⟩
    refine SXL.call1 (.tuple ⟨[.int .i64 2, .int .i64 23, .int .i64 0]⟩) fn_52 rfl (fun w hI => (slook_any fnt ra158.addr rb158.addr ra158.cap rb158.cap (by decide) (by decide) _ (hg.inv hI) (spAtOwn hI oa158 ob158 (i := 1) (j := 2) rfl rfl)).eqv (by rw [fx_look.1, fx_look.2, fx_told.2])) ?_
    refine SXL.move rfl ?_
    refine SXL.extract rfl rfl ?_
    refine SXL.extract rfl rfl ?_
    refine SXL.extract rfl rfl ?_
    refine SXL.assign rfl ?_
    refine SXL.assign rfl ?_
    refine SXL.assign rfl ?_
    refine SXL.nil ?_
    refine thenQ.normal ?_
    refine ⟨(_), MeetsW.mkS [0] ⟨rfl, rfl, rfl, rfl, trivial⟩ ⟨rfl, rfl, rfl, rfl, rfl, trivial⟩ rfl, trivial⟩
  rintro b21 _
  refine SX.cutW (α := Nat × Sl) [0, 2, 4, 8, 10, 22, 23] rfl (fun ⟨b21, q165⟩ => [(6, .int .i64 0), (21, .pointer (some ⟨b21, 0, none⟩)), (24, q165.val 1)]) (fun ⟨b21, q165⟩ => [(b21, .cells ⟨[.int .i64 144, .int .i64 1800]⟩ 23 (0, 0)), q165.ent 3 (ints [1])]) (fun ⟨b21, q165⟩ => []) (fun ⟨b21, q165⟩ => q165.Ok 1 1 (ints [1])) ?_ ?_
  · refine SX.region ?_
    refine SXL.callF (SpR fnt) fn_67 rfl (fun w hI => fountain_any [] none 0 (by simp) w (.nil _ _ _)) ?_; rintro _ _ ⟨ra164, rb164, oa164, ob164, rfl, rfl⟩
    refine SXL.callF (IsR2 [1] 0) fn_32 rfl (fun w hI => (srests_any fnt ra164.addr rb164.addr ra164.cap rb164.cap 0 (by decide) (by decide) w (hg.inv hI) (spAtOwn hI oa164 ob164 (i := 1) (j := 2) rfl rfl)).mono (fun v own h => by rw [fx_rests, fx_told.2] at h; exact h)) ?_; rintro _ _ ⟨q165, u165, rfl, rfl⟩
    refine SXL.move rfl ?_
    refine SXL.extract rfl rfl ?_
    refine SXL.extract rfl rfl ?_
    refine SXL.assign rfl ?_
    refine SXL.assign rfl ?_
    refine SXL.nil ?_
    refine thenQ.normal ?_
    refine ⟨(_, _), MeetsW.mkS [0, 3] ⟨rfl, rfl, rfl, trivial⟩ ⟨rfl, rfl, rfl, rfl, rfl, rfl, rfl, trivial⟩ rfl, u165⟩
  rintro ⟨b21, q165⟩ u165
  refine SX.cutW (α := Nat × Sl × Sl) [0, 2, 4, 6, 10, 22, 23] rfl (fun ⟨b21, q165, q170⟩ => [(8, .int .i64 0), (21, .pointer (some ⟨b21, 0, none⟩)), (24, q165.val 1), (25, q170.val 1)]) (fun ⟨b21, q165, q170⟩ => [(b21, .cells ⟨[.int .i64 144, .int .i64 1800]⟩ 23 (0, 0)), q165.ent 3 (ints [1]), q170.ent 3 (ints [3])]) (fun ⟨b21, q165, q170⟩ => []) (fun ⟨b21, q165, q170⟩ => q165.Ok 1 1 (ints [1]) ∧ q170.Ok 1 1 (ints [3])) ?_ ?_
  · refine SX.region ?_
    refine SXL.callF (SpR oddS) fn_68 rfl (fun w hI => odd_any w) ?_; rintro _ _ ⟨ra169, rb169, oa169, ob169, rfl, rfl⟩
    refine SXL.callF (IsR2 [3] 0) fn_34 rfl (fun w hI => (swrong_any oddS ra169.addr rb169.addr ra169.cap rb169.cap (by decide) (by decide) w (hg.inv hI) (spAtOwn hI oa169 ob169 (i := 2) (j := 3) rfl rfl)).mono (fun v own h => by rw [fx_wrong.1, fx_wrong.2] at h; exact h)) ?_; rintro _ _ ⟨q170, u170, rfl, rfl⟩
    refine SXL.move rfl ?_
    refine SXL.extract rfl rfl ?_
    refine SXL.extract rfl rfl ?_
    refine SXL.assign rfl ?_
    refine SXL.assign rfl ?_
    refine SXL.nil ?_
    refine thenQ.normal ?_
    refine ⟨(_, _, _), MeetsW.mkS [0, 1, 4] ⟨rfl, rfl, rfl, rfl, trivial⟩ ⟨rfl, rfl, rfl, rfl, rfl, rfl, rfl, trivial⟩ rfl, ⟨u165, u170⟩⟩
  rintro ⟨b21, q165, q170⟩ ⟨u165, u170⟩
  refine SX.cutW (α := Nat × Sl × Sl × Sl × Sl × Nat) [0, 2, 4, 6, 8, 22, 23] rfl (fun ⟨b21, q165, q170, ra176, rb176, b26⟩ => [(10, .int .i64 0), (21, .pointer (some ⟨b21, 0, none⟩)), (24, q165.val 1), (25, q170.val 1), (26, .pointer (some ⟨b26, 0, none⟩))]) (fun ⟨b21, q165, q170, ra176, rb176, b26⟩ => [(b21, .cells ⟨[.int .i64 144, .int .i64 1800]⟩ 23 (0, 0)), q165.ent 3 (ints [1]), q170.ent 3 (ints [3]), ra176.ent 61 (bookC fnt), rb176.ent 54 (readsC fnt), (b26, .cells ⟨[.int .i64 fnt.weeks, .int .i64 fnt.most, .int .i64 fnt.fall, .int .i64 fnt.a0, .int .i64 fnt.a1, .int .i64 fnt.w0, .int .i64 fnt.w1, ra176.val fnt.book.length, rb176.val fnt.reads.length]⟩ 27 (0, 0))]) (fun ⟨b21, q165, q170, ra176, rb176, b26⟩ => []) (fun ⟨b21, q165, q170, ra176, rb176, b26⟩ => q165.Ok 1 1 (ints [1]) ∧ q170.Ok 1 1 (ints [3]) ∧ ra176.Ok fnt.book.length 5 (bookC fnt) ∧ rb176.Ok fnt.reads.length 5 (readsC fnt)) ?_ ?_
  · refine SX.region ?_
    refine SXL.callF (SpR oddS) fn_68 rfl (fun w hI => odd_any w) ?_; rintro _ _ ⟨ra174, rb174, oa174, ob174, rfl, rfl⟩
    refine SXL.buildSlice et_35 zp_3 rfl rfl rfl rfl ?_; intro b5
    refine SXL.callF (SpE fnt 0) fn_40 rfl (fun w hI => (sstrike_any oddS ra174.addr rb174.addr ra174.cap rb174.cap [3] (some ⟨b5, 0, none⟩) 1 (by decide) (by decide) (by decide) w (hg.inv hI) (spAtOwn hI oa174 ob174 (i := 3) (j := 4) rfl rfl) (ownOnes hI (i := 5) [3] rfl)).mono (fun v own h => by rw [fx_strike.1, fx_strike.2] at h; exact h)) ?_; rintro _ _ ⟨ra176, rb176, oa176, ob176, rfl, rfl⟩
    refine SXL.move rfl ?_
    refine SXL.extract rfl rfl ?_
    refine SXL.extract rfl rfl ?_
    refine SXL.alloc zp_27 ?_; intro b8
    refine SXL.store 8 sz_27 rfl rfl rfl rfl rfl rfl ?_
    refine SXL.assign rfl ?_
    refine SXL.nil ?_
    refine thenQ.normal ?_
    refine ⟨(_, _, _, _, _, _), MeetsW.mkS [0, 1, 2, 6, 7, 8] ⟨rfl, rfl, rfl, rfl, rfl, trivial⟩ ⟨rfl, rfl, rfl, rfl, rfl, rfl, rfl, trivial⟩ rfl, ⟨u165, u170, oa176, ob176⟩⟩
  rintro ⟨b21, q165, q170, ra176, rb176, b26⟩ ⟨u165, u170, oa176, ob176⟩
  refine SX.seq ?_
  refine SX.draw 41 (by kernel_rfl) (by kernel_rfl) {} ?_
  refine SXA.take 0 22 rfl (by kernel_rfl) rfl ?_
  refine SXL.move rfl ?_
  refine SXL.eqlT rfl rfl ?_
  refine SXL.move rfl ?_
  refine SXL.loadNo 0 sh_23 rfl rfl rfl ?_
  refine SXL.call1 (.agg ⟨[.int .i64 144, .int .i64 1800]⟩) fn_63 rfl (fun w hI => mkSpan_any _ _ _) ?_
  refine SXL.eqlVT (xs := [144, 1800]) eq_23 eg_23 sh_23 rfl rfl rfl ?_
  refine SXL.pickAt (EnvSub.refl _) rfl rfl ?_ rfl rfl
  refine SXL.move rfl ?_
  refine SXL.move rfl ?_
  refine SXL.eqlT rfl rfl ?_
  refine SXL.pickAt (EnvSub.refl _) rfl rfl ?_ rfl rfl
  refine SXL.move rfl ?_
  refine SXL.move rfl ?_
  refine SXL.eqlT rfl rfl ?_
  refine SXL.pickAt (EnvSub.refl _) rfl rfl ?_ rfl rfl
  refine SXL.move rfl ?_
  refine SXL.move rfl ?_
  refine SXL.eqlT rfl rfl ?_
  refine SXL.pickAt (EnvSub.refl _) rfl rfl ?_ rfl rfl
  refine SXL.move rfl ?_
  refine SXL.move rfl ?_
  refine SXL.move rfl ?_
  refine SXL.nil ⟨rfl, rfl, rfl, ?_⟩
  refine SXA.all [22] (by kernel_rfl) rfl ⟨⟨?_, rfl⟩, trivial⟩
  refine (show SXL _ _ [_] _ _ from ?_)
  refine SXL.buildSlice et_35 zp_3 rfl rfl rfl rfl ?_; intro b6
  refine SXL.nil (stepQ.mk _ rfl rfl ?_)
  refine SXA.take 23 5 rfl (by kernel_rfl) rfl ?_
  refine SXL.call1 (.bool true) fn_108 rfl (fun w hI => (is_any [1] [1] 0 q165.addr (some ⟨b6, 0, none⟩) q165.cap 1 (by decide) _ (slOnes hI u165 (i := 1) rfl) (ownOnes hI (i := 6) [1] rfl)).eqv (congrArg Value.bool (decide_eq_true ⟨rfl, rfl⟩))) ?_
  refine SXL.pickAt (EnvSub.refl _) rfl rfl ?_ rfl rfl
  refine SXL.move rfl ?_
  refine SXL.move rfl ?_
  refine SXL.move rfl ?_
  refine SXL.nil ⟨rfl, rfl, rfl, ?_⟩
  refine SXA.all [28] (by kernel_rfl) rfl ⟨⟨?_, rfl⟩, trivial⟩
  refine (show SXL _ _ [_] _ _ from ?_)
  refine SXL.buildSlice et_35 zp_3 rfl rfl rfl rfl ?_; intro b7
  refine SXL.nil (stepQ.mk _ rfl rfl ?_)
  refine SXA.take 29 8 rfl (by kernel_rfl) rfl ?_
  refine SXL.call1 (.bool true) fn_108 rfl (fun w hI => (is_any [3] [3] 0 q170.addr (some ⟨b7, 0, none⟩) q170.cap 1 (by decide) _ (slOnes hI u170 (i := 2) rfl) (ownOnes hI (i := 7) [3] rfl)).eqv (congrArg Value.bool (decide_eq_true ⟨rfl, rfl⟩))) ?_
  refine SXL.pickAt (EnvSub.refl _) rfl rfl ?_ rfl rfl
  refine SXL.move rfl ?_
  refine SXL.move rfl ?_
  refine SXL.eqlT rfl rfl ?_
  refine SXL.pickAt (EnvSub.refl _) rfl rfl ?_ rfl rfl
  refine SXL.move rfl ?_
  refine SXL.loadNo 5 sh_27 rfl rfl rfl ?_
  refine SXL.nil ⟨rfl, rfl, rfl, ?_⟩
  refine SXA.all [37] (by kernel_rfl) rfl ⟨⟨?_, rfl⟩, trivial⟩
  refine (show SXL _ _ [_] _ _ from ?_)
  refine SXL.callF (SpR fnt) fn_67 rfl (fun w hI => fountain_any [] none 0 (by simp) w (.nil _ _ _)) ?_; rintro _ _ ⟨ra216, rb216, oa216, ob216, rfl, rfl⟩
  refine SXL.nil (stepQ.mk _ rfl rfl ?_)
  refine SXA.take 38 3 rfl (by kernel_rfl) rfl ?_
  refine SXL.call1 (.bool true) fn_29 rfl (fun w hI => (same_any fnt fnt ra176.addr rb176.addr ra216.addr rb216.addr ra176.cap rb176.cap ra216.cap rb216.cap (by decide) (by decide) _ (spAtOwn hI oa176 ob176 (i := 3) (j := 4) rfl rfl) (spAtOwn hI oa216 ob216 (i := 8) (j := 9) rfl rfl)).eqv (congrArg Value.bool (decide_eq_true rfl))) ?_
  refine SXL.pickAt (EnvSub.refl _) rfl rfl ?_ rfl rfl
  refine SXL.assign rfl ?_
  refine SXL.nil ⟨rfl, rfl, rfl, ?_⟩
  refine SXA.done (by kernel_rfl) ?_
  refine SXL.nil ?_
  refine thenQ.normal ?_
  refine SX.ret ?_
  refine retQ.dead [] rfl ?_
  refine retQ.one (ResAt.tmp rfl) ?_
  rfl
end Go.Proofs.YtknflipongbngaaDoor

/- What is told, from week to week. Nothing of Go stands here. -/
namespace Go.S
open Go.X (G idxF idxF_some idxF_none)
end Go.S

/- SpringWeeks: the walk. -/
namespace Go.Proofs.YtknflipongbngaaDoor
open Go.X Go.S Go.RowKit
end Go.Proofs.YtknflipongbngaaDoor

/- How long a bucket takes. Nothing of Go stands here. -/
namespace Go.S
open Go.X (G)
variable {s : Sp} {k : Nat} {a : Int}
/-! ### the week that tells most -/
end Go.S

/- Fewer truths: what is told is within what was told. Nothing of Go stands here. -/
namespace Go.S
open Go.X (G)
def allTo (s : Sp) : Nat → Int
  | 0 => 0
  | k + 1 => allTo s k + (givesHi s k - givesLo s k)
end Go.S

/- The calculus' rules: conversions between integers, shifts, bits. Nothing of the program stands here. -/
namespace Go.X
open Go Go.RowKit
def cvP (P : Program) (src dst : TypeId) (k : IntKind) : Bool := match P.underlying src, P.underlying dst with | some _, some (.int j) => decide (j = k) | _, _ => false
theorem run_cv {P : Program} {w : World} {src dst : TypeId} {k k2 : IntKind} {n : Int} (h : cvP P src dst k2 = true) : (convert src dst (.int k n)).run P w = .ok (.int k2 (k2.wrap n)) w := by
  unfold cvP at h
  split at h
  · rename_i u j h1 h2
    obtain rfl := of_decide_eq_true h
    simp [convert, run_underlying h1, run_underlying h2, Conv.intToInt]
  · cases h
section
variable {C : Cx} {Q : Post} {env : Env} {own : Own} {D : List Deferred} {ops : Array Oper} {rest : List Oper}
variable {d : Nat} {ty : TypeId} {pos : String} {aft : Array Edge} {g : Option (Nat × Bool)} {x y : Operand} {T T' : TypeId} {A B : Int} {k : IntKind}
theorem SXL.cv (hT : cvP C.P T T' .i64 = true) (hx : ev env x = some (.int k A)) (hb : -9223372036854775808 ≤ A ∧ A ≤ 9223372036854775807)
    (h : SXL C ops rest Q ⟨(d, .int .i64 A) :: env, own, D⟩) (hd : Nat.blt d C.n = true := by rfl) (hw : Wanted ops g env = some true := by rfl) :
    SXL C ops ({ dst := some d, op := .convert T T' x, type := ty, pos, after := aft, guard := g } :: rest) Q ⟨env, own, D⟩ :=
  SXL.val rfl hd hw (fun _ e => by cases e) (fun a w ha _ => by
    simp only [execOp, ha.eval hx]
    exact run_val (by rw [run_cv hT, IntWalk.i64_in _ hb])) h
theorem SXL.shr {j : IntKind} (hx : ev env x = some (.int k A)) (hy : ev env y = some (.int j B)) (hb : 0 ≤ B)
    (h : SXL C ops rest Q ⟨(d, .int k (A.fdiv (2 ^ (Min.min B.toNat k.bits)))) :: env, own, D⟩) (hd : Nat.blt d C.n = true := by rfl) (hw : Wanted ops g env = some true := by rfl) :
    SXL C ops ({ dst := some d, op := .binOp .shr T x y T', type := ty, pos, after := aft, guard := g } :: rest) Q ⟨env, own, D⟩ :=
  SXL.bin hx hy (r := .int k (A.fdiv (2 ^ (Min.min B.toNat k.bits)))) (fun w => by
    show (Op.shift .shr k A j B).run C.P w = _
    unfold Op.shift
    rw [if_neg (by omega)]; rfl) hd hw h
theorem SXL.and (hx : ev env x = some (.int k A)) (hy : ev env y = some (.int k B))
    (h : SXL C ops rest Q ⟨(d, .int k (k.wrap ((BitVec.ofInt k.bits A &&& BitVec.ofInt k.bits B).toNat))) :: env, own, D⟩) (hd : Nat.blt d C.n = true := by rfl) (hw : Wanted ops g env = some true := by rfl) :
    SXL C ops ({ dst := some d, op := .binOp .and T x y T', type := ty, pos, after := aft, guard := g } :: rest) Q ⟨env, own, D⟩ :=
  SXL.bin hx hy (r := .int k (k.wrap ((BitVec.ofInt k.bits A &&& BitVec.ofInt k.bits B).toNat))) (fun w => by
    have e : (do eqGuard .and T x y (.int k A) (.int k B); binOp .and T (.int k A) (.int k B) : Sem Value) = Op.intBits .and k A B := by
      simp [eqGuard, binOp]
    rw [e]; rfl) hd hw h
end
end Go.X

/- SpringFill, SpringLook: the walks. -/
namespace Go.Proofs.YtknflipongbngaaDoor
open Go.X Go.S Go.RowKit
end Go.Proofs.YtknflipongbngaaDoor

/- The fewest false readings: what is told is the first of the fewest. Nothing of Go stands here. -/
namespace Go.S
open Go.X (G)
/-- One list is before another of its length. -/
def lexB : List Int → List Int → Prop
  | x :: xs, y :: ys => x < y ∨ (x = y ∧ lexB xs ys)
  | _, _ => False
def befP (a b : List Int) : Prop := if a.length ≠ b.length then a.length < b.length else lexB a b
/-- Numbers of readings that stand behind the first i. -/
def Ch (s : Sp) (i m : Nat) (c : List Int) : Prop := c.length = m ∧ c.Sublist ((numsL s).drop i)
end Go.S

/- SpringWrong: the walk. -/
namespace Go.Proofs.YtknflipongbngaaDoor
open Go.X Go.S Go.RowKit
noncomputable instance (a b : List Int) : Decidable (befP a b) := Classical.propDecidable _
/-- The reading's bit stands. -/
abbrev bitOn (bits : Int) (k : Nat) : Prop := IntKind.u16.wrap ((BitVec.ofInt IntKind.u16.bits (bits.fdiv (2 ^ (Min.min (k : Int).toNat IntKind.u16.bits))) &&& BitVec.ofInt IntKind.u16.bits 1).toNat) = 1
def bitL (s : Sp) (bits : Int) : Nat → List Int
  | 0 => []
  | k + 1 => if bitOn bits k then bitL s bits k ++ [(s.reads.getD k default).num] else bitL s bits k
end Go.Proofs.YtknflipongbngaaDoor

/- The helpers of the outright laws: the walks. -/
namespace Go.Proofs.YtknflipongbngaaDoor
open Go.X Go.S Go.RowKit
def BedOk (s : Sp) (rain : Int) (week : Nat) (before lo hi : Int) : Prop := ((0 ≤ lo ∧ before - s.fall ≤ lo) ∧ hi ≤ s.most ∧ hi ≤ before) ∧ (∀ x ∈ s.book, x.wk = week → Wi rain x.r0 x.r1 → x.g0 ≤ lo ∧ hi ≤ x.g1) ∧ OkP s week lo ∧ OkP s week hi
structure BedR (s : Sp) (rain : Int) (week : Nat) (before : Int) (v : Value) (own : X.Own) : Prop where
  ex : ∃ lo hi : Int, v = .tuple ⟨[.int .i64 lo, .int .i64 hi]⟩ ∧ own = [] ∧ (lo ≤ hi → BedOk s rain week before lo hi)
end Go.Proofs.YtknflipongbngaaDoor

/- Truths by numbers. Nothing of Go stands here. -/
namespace Go.S
open Go.X (G)
/-- A truth of the first weeks. -/
def TruthTo (s : Sp) (rain : Int) (l : List Int) (k : Nat) : Prop := ∀ w, w < k →
  ((0 ≤ l.getD w 0 ∧ l.getD w 0 ≤ s.most) ∧ OkP s w (l.getD w 0)) ∧ (∀ x ∈ s.book, x.wk = w → Wi rain x.r0 x.r1 → Wi (l.getD w 0) x.g0 x.g1) ∧ (0 < w → l.getD (w - 1) 0 - s.fall ≤ l.getD w 0 ∧ l.getD w 0 ≤ l.getD (w - 1) 0)
theorem TruthTo.truth {s : Sp} {rain : Int} {l : List Int} (h : TruthTo s rain l s.weeks.toNat) : Truth s rain (fun w => l.getD w 0) := h
end Go.S

/- A truth by numbers: the walk. -/
namespace Go.Proofs.YtknflipongbngaaDoor
open Go.X Go.S Go.RowKit
structure FlowR (s : Sp) (v : Value) (own : X.Own) : Prop where
  ex : ∃ (rain : Int) (q : Sl) (l : List Int) (p : Prop) (_ : Decidable p), q.Ok l.length 1 (ints l) ∧ v = .tuple ⟨[.int .i64 rain, q.val l.length, .bool (decide p)]⟩ ∧ own = [q.ent 3 (ints l)] ∧ (p → Wi rain s.w0 s.w1 ∧ l.length = s.weeks.toNat ∧ TruthTo s rain l s.weeks.toNat)
end Go.Proofs.YtknflipongbngaaDoor

/- What a truth gives in all weeks; how long a bucket takes in it. Nothing of Go stands here. -/
namespace Go.S
open Go.X (G)
end Go.S

/- SpringTruth: the walk. -/
namespace Go.Proofs.YtknflipongbngaaDoor
open Go.X Go.S Go.RowKit
end Go.Proofs.YtknflipongbngaaDoor

/- The calculus' rules: calls that turn blocks of the caller's own; copy; append of zeros; overlaps. Nothing of the program stands here. -/
namespace Go.X
open Go Go.RowKit

section
variable {C : Cx} {Q : Post} {env : Env} {own : Own} {D : List Deferred} {ops : Array Oper} {rest : List Oper}
variable {d : Nat} {ty : TypeId} {pos : String} {aft : Array Edge} {g : Option (Nat × Bool)} {x y : Operand} {T T' : TypeId}
/-- A call that may turn blocks of the caller's own: of them some are looked at; behind it others stand. -/
theorem SXL.callOfM {o : Oper} {f : FuncId} {args : List Value} {own1 : Own} {R : Value → Own → Prop} (is : List Nat) (hs : selI own is = some own1) (hds : distinct is = true) (ho : o.dst = some d) (hd : Nat.blt d C.n = true) (hw : Wanted ops o.guard env = some true) (hnd : ∀ c, o.op ≠ .defer c)
    (hv : ∀ a w, Agree C.n env a → Inv C.w0 own w → (execOp a.eval o).run C.P w = .ok (.enter f ⟨args⟩) w)
    (hc : ∀ w, Inv C.w0 own1 w → Calls C.P f ⟨args⟩ w fun e w' => ∃ v own', e = .returned v ∧ Inv C.w0 own' w' ∧ R v own')
    (h : ∀ v own', R v own' → SXL C ops rest Q ⟨(d, v) :: env, own', D⟩) (hdr : C.dr = false := by rfl) : SXL C ops (o :: rest) Q ⟨env, own, D⟩ := by
  refine SXL.ofn hdr ?_
  intro a w hcn
  have hw' := hcn.1.wanted hw
  simp only [wpListIn, hw', if_true]
  refine ⟨about_true rfl, ?_⟩
  rw [Oper.semAt_eq _ _ _ hnd, hv a w hcn.1 hcn.2.2]
  refine ⟨fun hx => (by cases hx), callsIn_FW (Calls.mono (hc w (hcn.2.2.sel hs hds)) ?_)⟩
  rintro e w' ⟨v, own', rfl, hI', hR⟩
  exact (h v own' hR).ton hdr _ _ (by rw [ho]; exact ⟨hcn.1.put hd v, by rw [put_defers]; exact hcn.2.1, hI'⟩)
theorem SXL.callM {f : FuncId} {xs : List Operand} {ats : Array TypeId} {args : List Value} {own1 : Own} (R : Value → Own → Prop) (is : List Nat) (hs : selI own is = some own1) (hf : fnOk C.P f = true) (hx : evl env xs = some args)
    (hc : ∀ w, Inv C.w0 own1 w → Calls C.P f ⟨args⟩ w fun e w' => ∃ v own', e = .returned v ∧ Inv C.w0 own' w' ∧ R v own')
    (h : ∀ v own', R v own' → SXL C ops rest Q ⟨(d, v) :: env, own', D⟩) (hds : distinct is = true := by rfl) (hd : Nat.blt d C.n = true := by rfl) (hw : Wanted ops g env = some true := by rfl) (hdr : C.dr = false := by rfl) :
    SXL C ops ({ dst := some d, op := .call { callee := .value (.func f), args := ⟨xs⟩, argTypes := ats }, type := ty, pos, after := aft, guard := g } :: rest) Q ⟨env, own, D⟩ :=
  SXL.callOfM is hs hds rfl hd hw (fun _ e => by cases e) (fun a w ha hI => by
    rw [execOp_call_go]
    have := evl_map ha hx
    simp only [List.map_toArray, this]
    simpa using run_callFunc hf) hc h hdr
end
/-- Some cells of a row set anew. -/
def putL (l : List Value) (off : Nat) (vs : List Value) : List Value := l.take off ++ vs ++ l.drop (off + vs.length)
theorem run_copy_row' {P : Program} {w : World} {dT sT ty E elem : TypeId} {b off n dLen dCap sLen sCap size : Nat} {l news : List Value} {a : Addr} (hu : P.underlying dT = some (.slice elem)) (hz : (sizeOf elem).run P w = .ok size w)
    (hk : Nat.min sLen dLen = n) (hn : news.length = n * size) (hsrc : ∀ j v, news[j]? = some v → w.cell? (a.add j) = some v)
    (hb : w.heap[b]? = some (.cells ⟨l⟩ E (0, 0))) (hfit : off + news.length ≤ l.length) (h1 : ∀ v ∈ news, v.oneCell' = true) :
    (Builtin.copy_ #[dT, sT] ty #[.slice (some ⟨b, off, none⟩) dLen dCap, .slice (some a) sLen sCap]).run P w = .ok (goInt n) (w.setRow b (⟨putL l off news⟩ : Array Value)) := by
  have hf := run_firstCells_some (P := P) w size n a sLen sCap news hn hsrc
  have hst := run_storeCells_at P b off E news 0 ⟨l⟩ w hb (by simpa using hfit) h1
  simp only [Nat.add_zero] at hst
  simp [Builtin.copy_, run_underlying hu, Builtin.lenOf, hz, hk, hf, hst, putL]
section
variable {C : Cx} {Q : Post} {env : Env} {own : Own} {D : List Deferred} {ops : Array Oper} {rest : List Oper}
variable {d : Nat} {ty : TypeId} {pos : String} {aft : Array Edge} {g : Option (Nat × Bool)} {x y : Operand} {T T' : TypeId}
/-- copy into a block of the call's own. -/
theorem SXL.copyO (i : Nat) {b off n dLen dCap sLen sCap size : Nat} {E : TypeId} {l news : List Value} {ao : Option Addr} (he : elemP C.P T = some (none, size)) (hx : ev env x = some (.slice (some ⟨b, off, none⟩) dLen dCap)) (hy : ev env y = some (.slice ao sLen sCap))
    (hi : own[i]? = some (b, .cells ⟨l⟩ E (0, 0))) (hlive : 0 < l.length) (hk : Nat.min sLen dLen = n) (hn : news.length = n * size) (hsrc : ∃ b' o', ao = some ⟨b', o', none⟩ ∧ Mem C.w0 own b' o' news) (hfit : off + news.length ≤ l.length) (h1 : news.all isOne = true)
    (h : SXL C ops rest Q ⟨(d, .int .i64 (n : Int)) :: env, own.set i (b, .cells ⟨putL l off news⟩ E (0, 0)), D⟩)
    (hd : Nat.blt d C.n = true := by rfl) (hw : Wanted ops g env = some true := by rfl) (hdr : C.dr = false := by rfl) :
    SXL C ops ({ dst := some d, op := .call { callee := .builtin .copy, args := ⟨[x, y]⟩, argTypes := ⟨[T, T']⟩ }, type := ty, pos, after := aft, guard := g } :: rest) Q ⟨env, own, D⟩ :=
  SXL.op hw (fun _ e => by cases e) (hdr := hdr) fun a w hc => by
    have hl := live_of_len (b := b) (E := E) (fz := (0, 0)) hlive
    obtain ⟨b', o', rfl, hm⟩ := hsrc
    have hcur := (hc.2.2.get hi hl).2
    simp only at hcur
    obtain ⟨elem, hu, hz⟩ : ∃ elem, C.P.underlying T = some (.slice elem) ∧ ∀ w, (sizeOf elem).run C.P w = .ok size w := by
      unfold elemP at he
      split at he
      · rename_i e hu
        cases hs : sizeP C.P e with
        | none => simp [hs] at he
        | some s => simp [hs] at he; subst he; exact ⟨e, hu, fun w => run_sizeOf hs⟩
      · rename_i n' e hu; cases hs : sizeP C.P e <;> simp [hs] at he
      · cases he
    have hr := run_copy_row' (P := C.P) (w := w) (sT := T') (ty := ty) (dCap := dCap) (sCap := sCap) (a := ⟨b', o', none⟩) hu (hz w) hk hn (fun j v hj => by rw [addr_add]; exact hm w hc.2.2 j v hj) hcur hfit (fun v hv => isOne_one (List.all_eq_true.1 h1 v hv))
    refine ⟨.int .i64 (n : Int), w.setRow b (⟨putL l off news⟩ : Array Value), .inl ?_, ⟨(d, .int .i64 (n : Int)) :: env, own.set i (b, .cells ⟨putL l off news⟩ E (0, 0)), D⟩, fun a' ha' hD' => ⟨ha'.put hd _, by rw [put_defers]; exact hD', ?_⟩, h⟩
    · simp only [execOp]
      simp [resolve, invoke, builtin, hc.1.eval hx, hc.1.eval hy, hr, Result.andThen, goInt]
    · exact hc.2.2.set hi hl (fun k hk => setRow_other w b k _ hk) (setRow_heap w b _ _ E (0, 0) hcur) (by simp [World.setRow]) rfl rfl rfl
/-- .. of which what comes of it has a name. -/
theorem SXL.copyE (i : Nat) {b off n dLen dCap sLen sCap size : Nat} {E : TypeId} {l news l' : List Value} {ao : Option Addr} (he : elemP C.P T = some (none, size)) (hx : ev env x = some (.slice (some ⟨b, off, none⟩) dLen dCap)) (hy : ev env y = some (.slice ao sLen sCap))
    (hi : own[i]? = some (b, .cells ⟨l⟩ E (0, 0))) (hlive : 0 < l.length) (hk : Nat.min sLen dLen = n) (hn : news.length = n * size) (hsrc : ∃ b' o', ao = some ⟨b', o', none⟩ ∧ Mem C.w0 own b' o' news) (hfit : off + news.length ≤ l.length) (h1 : news.all isOne = true) (hl : putL l off news = l')
    (h : SXL C ops rest Q ⟨(d, .int .i64 (n : Int)) :: env, own.set i (b, .cells ⟨l'⟩ E (0, 0)), D⟩)
    (hd : Nat.blt d C.n = true := by rfl) (hw : Wanted ops g env = some true := by rfl) (hdr : C.dr = false := by rfl) :
    SXL C ops ({ dst := some d, op := .call { callee := .builtin .copy, args := ⟨[x, y]⟩, argTypes := ⟨[T, T']⟩ }, type := ty, pos, after := aft, guard := g } :: rest) Q ⟨env, own, D⟩ := by
  subst hl; exact SXL.copyO i he hx hy hi hlive hk hn hsrc hfit h1 h hd hw hdr
theorem SXL.subE {A B R : Int} (hx : ev env x = some (.int .i64 A)) (hy : ev env y = some (.int .i64 B)) (hb : -9223372036854775808 ≤ A - B ∧ A - B ≤ 9223372036854775807) (hR : A - B = R)
    (h : SXL C ops rest Q ⟨(d, .int .i64 R) :: env, own, D⟩) (hd : Nat.blt d C.n = true := by rfl) (hw : Wanted ops g env = some true := by rfl) :
    SXL C ops ({ dst := some d, op := .binOp .sub T x y T', type := ty, pos, after := aft, guard := g } :: rest) Q ⟨env, own, D⟩ := by
  subst hR; exact SXL.sub hx hy hb h hd hw
theorem cut_own {b o l c s : Nat} (h : l < c ∨ l = 0) : cutAddr (some ⟨b, o, none⟩) l c s = some ⟨b, o + l * s, none⟩ := by
  unfold cutAddr
  split
  · rcases h with h | h
    · omega
    · subst h; simp
  · simp [Addr.add_lit]
/-- Parts of a slice that lies at a known place. -/
theorem SXL.sliceLo {z : Operand} {b off n c s k : Nat} {ki : IntKind} {A : Int} (he : elemP C.P T = some (none, s)) (hx : ev env x = some (.slice (some ⟨b, off, none⟩) n c)) (hy : ev env z = some (.int ki A)) (hA : A = (k : Int)) (hb : k ≤ n ∧ (k < c ∨ k = 0))
    (h : SXL C ops rest Q ⟨(d, .slice (some ⟨b, off + k * s, none⟩) (n - k) (c - k)) :: env, own, D⟩) (hd : Nat.blt d C.n = true := by rfl) (hw : Wanted ops g env = some true := by rfl) :
    SXL C ops ({ dst := some d, op := .slice T x (some z) none none, type := ty, pos, after := aft, guard := g } :: rest) Q ⟨env, own, D⟩ := by
  subst hA
  refine SXL.sliceL he hx hy (by omega) ?_ hd hw
  rw [Int.toNat_natCast, cut_own hb.2]; exact h
theorem SXL.sliceHo {z : Operand} {b off n c s k : Nat} {ki : IntKind} {B : Int} (he : elemP C.P T = some (none, s)) (hx : ev env x = some (.slice (some ⟨b, off, none⟩) n c)) (hz : ev env z = some (.int ki B)) (hB : B = (k : Int)) (hb : k ≤ c)
    (h : SXL C ops rest Q ⟨(d, .slice (some ⟨b, off, none⟩) k c) :: env, own, D⟩) (hd : Nat.blt d C.n = true := by rfl) (hw : Wanted ops g env = some true := by rfl) :
    SXL C ops ({ dst := some d, op := .slice T x none (some z) none, type := ty, pos, after := aft, guard := g } :: rest) Q ⟨env, own, D⟩ := by
  subst hB
  refine SXL.sliceH he hx hz (by omega) ?_ hd hw
  rw [Int.toNat_natCast, cut_own (.inr rfl), Nat.zero_mul, Nat.add_zero]; exact h
/-- Some blocks, in another order. -/
theorem SXL.selO {l : List Oper} {own' : Own} (is : List Nat) (hs : selI own is = some own') (h : SXL C ops l Q ⟨env, own', D⟩) (hd : distinct is = true := by rfl) : SXL C ops l Q ⟨env, own, D⟩ :=
  SXL.le (s' := ⟨env, own', D⟩) ⟨EnvSub.refl _, Sel.of is hs hd, rfl⟩ h
theorem SX.selO {c : Code} {own' : Own} (is : List Nat) (hs : selI own is = some own') (h : SX C c Q ⟨env, own', D⟩) (hd : distinct is = true := by rfl) : SX C c Q ⟨env, own, D⟩ :=
  SX.le (s' := ⟨env, own', D⟩) ⟨EnvSub.refl _, Sel.of is hs hd, rfl⟩ h
/-! ### append of zeros that grows -/
def isI64P (P : Program) (t : TypeId) : Bool := match P.underlying t with | some (.int .i64) => true | _ => false
theorem run_append_zeros {P : Program} (w : World) (t tn ty e : TypeId) (i : TypeInfo) (z : Value) (ht : P.underlying t = some (.slice e)) (htn : P.underlying tn = some (.int .i64)) (hi : P.info? e = some i) (hz : i.zero = some z)
    (b : Addr) (n c : Nat) (olds : List Value) (hlo : olds.length = n * i.size) (holds : ∀ j v, olds[j]? = some v → w.cell? (b.add j) = some v)
    (m : Nat) (h0 : 0 < m) (hs : 0 < i.size) (hg : c < n + m) (h63 : ((n + m : Nat) : Int) ≤ 9223372036854775807) (hfit : Builtin.nextslicecap (n + m) c * i.bytes ≤ 281474976710656) (h48 : m * i.bytes ≤ 281474976710656) :
    (Builtin.append_ #[t, tn] ty #[.slice (some b) n c, .int .i64 (m : Int)]).run P w =
      .ok (.slice (some ⟨w.heap.size, 0, none⟩) (n + m) (grownCap w (n + m) c e)) (w.drew.alloc (.cells (olds.toArray ++ Builtin.zeroCells z.cells m ++ Builtin.zeroCells z.cells (grownCap w (n + m) c e - (n + m))) e)) := by
  have hn : ¬ (n + m ≤ c) := by omega
  have hw : IntKind.i64.wrap (m : Int) = m := by rw [IntKind.wrap_i64]; omega
  have h63' : ¬ (9223372036854775807 < ((n : Int) + (m : Int))) := by omega
  have h48' : ¬ (281474976710656 < Builtin.nextslicecap (n + m) c * i.bytes) := by omega
  have h48i : ¬ (281474976710656 < (m : Int) * (i.bytes : Int)) := by
    rw [← Int.natCast_mul]
    omega
  have hneg : ¬ ((m : Int) < 0) := by omega
  have hns : ¬ (m * i.size = 0) := Nat.mul_ne_zero (by omega) (by omega)
  have hfo := run_firstCells_some (P := P) w.drew i.size n b n c olds hlo (by simpa using holds)
  simp [Builtin.append_, run_underlying ht, run_underlying htn, sizeOf, typeInfo, zeroValue, hi, hz, asInt, asIntOf, hw, hn, hneg, hns, h63', h48', h48i, Question.forced, hfo, newRow, grownCap]
theorem isI64P_spec {P : Program} {t : TypeId} (h : isI64P P t = true) : P.underlying t = some (.int .i64) := by
  unfold isI64P at h
  split at h
  · assumption
  · cases h
theorem SXL.appendZ {n m c size bytes : Nat} {E : TypeId} {olds : List Value} {ao : Option Addr} (hap : apP C.P T = some (E, size, bytes)) (hint : isI64P C.P T' = true) (hx : ev env x = some (.slice ao n c)) (hy : ev env y = some (.int .i64 (m : Int)))
    (hsrc : ∃ b off, ao = some ⟨b, off, none⟩ ∧ Mem C.w0 own b off olds) (hol : olds.length = n * size) (hm0 : 0 < m) (hgrow : c < n + m) (hmax : n + m ≤ maxLen ∧ (n + m) * bytes ≤ 140737488355328)
    (h : ∀ b c' zs, n + m ≤ c' → c' ≤ maxLen → (olds ++ zs).length = c' * size → SXL C ops rest Q ⟨(d, .slice (some ⟨b, 0, none⟩) (n + m) c') :: env, own ++ [(b, .cells ⟨olds ++ zs⟩ E (0, 0))], D⟩)
    (hd : Nat.blt d C.n = true := by rfl) (hw : Wanted ops g env = some true := by rfl) (hdr : C.dr = false := by rfl) :
    SXL C ops ({ dst := some d, op := .call { callee := .builtin .append, args := ⟨[x, y]⟩, argTypes := ⟨[T, T']⟩ }, type := ty, pos, after := aft, guard := g } :: rest) Q ⟨env, own, D⟩ :=
  SXL.op hw (fun _ e => by cases e) (hdr := hdr) fun a w hc => by
    obtain ⟨inf, z, hu, hinf, hz, hs, hb, hzs, hpos⟩ := apP_spec hap
    obtain ⟨b, off, rfl, hm⟩ := hsrc
    have hm63 : n + m ≤ 9223372036854775807 := by have := hmax.1; simp only [maxLen] at this; omega
    have h48 : m * inf.bytes ≤ 281474976710656 := by
      have : m * bytes ≤ (n + m) * bytes := Nat.mul_le_mul_right _ (by omega)
      rw [hb]; omega
    have hr := run_append_zeros (P := C.P) w T T' ty E inf z hu (isI64P_spec hint) hinf hz ⟨b, off, none⟩ n c olds (by rw [hs]; exact hol) (fun j v hj => by rw [addr_add]; exact hm w hc.2.2 j v hj) m hm0 (by rw [hs]; exact hpos) hgrow (by omega) (growslice_fits (by omega) (by rw [hb]; exact hmax.2)) h48
    have hge := grownCap_ge w (n + m) c E
    refine ⟨.slice (some ⟨w.heap.size, 0, none⟩) (n + m) (grownCap w (n + m) c E), w.drew.alloc (.cells (olds.toArray ++ Builtin.zeroCells z.cells m ++ Builtin.zeroCells z.cells (grownCap w (n + m) c E - (n + m))) E), .inl ?_, ⟨(d, .slice (some ⟨w.heap.size, 0, none⟩) (n + m) (grownCap w (n + m) c E)) :: env, own ++ [(w.heap.size, .cells ⟨olds ++ ((Builtin.zeroCells z.cells m).toList ++ (Builtin.zeroCells z.cells (grownCap w (n + m) c E - (n + m))).toList)⟩ E (0, 0))], D⟩, fun a' ha' hD' => ⟨ha'.put hd _, by rw [put_defers]; exact hD', ?_⟩,
      h _ _ _ hge (grownCap_le_maxLen w (n + m) c E hmax.1) ?_⟩
    · simp only [execOp]
      simp [resolve, invoke, builtin, hc.1.eval hx, hc.1.eval hy, hr, Result.andThen]
    · have e : (olds.toArray ++ Builtin.zeroCells z.cells m ++ Builtin.zeroCells z.cells (grownCap w (n + m) c E - (n + m))) = (⟨olds ++ ((Builtin.zeroCells z.cells m).toList ++ (Builtin.zeroCells z.cells (grownCap w (n + m) c E - (n + m))).toList)⟩ : Array Value) := by
        apply Array.ext'
        simp
      rw [e]
      have h1 := Inv.alloc1 w.drew (.cells ⟨olds ++ ((Builtin.zeroCells z.cells m).toList ++ (Builtin.zeroCells z.cells (grownCap w (n + m) c E - (n + m))).toList)⟩ E (0, 0))
      have h2 : Inv C.w0 own w.drew := ⟨hc.2.2.below.trans ⟨rfl, rfl, rfl, Nat.le_refl _, fun _ _ => rfl⟩, hc.2.2.mem, hc.2.2.nodup⟩
      exact h2.append h1
    · simp only [List.length_append, Array.length_toList, size_zeroCells, hzs, hol]
      rw [← Nat.add_mul, ← Nat.add_mul]
      congr 1; omega
/-! ### overlaps -/
theorem SXL.overlapsNo {f tS tR e : Nat} {size : Nat} {xs : List Operand} {ats : Array TypeId} {b1 o1 n1 c1 b2 o2 n2 c2 : Nat} {l1 l2 : List Value} {E1 E2 : TypeId}
    (hov : ∀ args w, (callFunc f args).run C.P w = ((Extern.SlicesOverlaps.overlaps #[tS, tS] #[tR] args).run C.P w).andThen fun v w' => .ok (.value v) w') (hu : C.P.underlying tS = some (.slice e)) (hz : sizeP C.P e = some size)
    (i j : Nat) (hne : Nat.beq i j = false) (hi : own[i]? = some (b1, .cells ⟨l1⟩ E1 (0, 0))) (hj : own[j]? = some (b2, .cells ⟨l2⟩ E2 (0, 0))) (h1 : 0 < l1.length) (h2 : 0 < l2.length)
    (hx : evl env xs = some [.slice (some ⟨b1, o1, none⟩) n1 c1, .slice (some ⟨b2, o2, none⟩) n2 c2])
    (h : SXL C ops rest Q ⟨(d, .bool false) :: env, own, D⟩) (hd : Nat.blt d C.n = true := by rfl) (hw : Wanted ops g env = some true := by rfl) :
    SXL C ops ({ dst := some d, op := .call { callee := .value (.func f), args := ⟨xs⟩, argTypes := ats }, type := ty, pos, after := aft, guard := g } :: rest) Q ⟨env, own, D⟩ :=
  SXL.val rfl hd hw (fun _ e => by cases e) (fun a w ha hI => by
    rw [execOp_call_go]
    have := evl_map ha hx
    simp only [List.map_toArray, this]
    have l1' := live_of_len (b := b1) (E := E1) (fz := (0, 0)) h1
    have l2' := live_of_len (b := b2) (E := E2) (fz := (0, 0)) h2
    have g1 := (hI.get hi l1').2
    have g2 := (hI.get hj l2').2
    have hnb : b1 ≠ b2 := nodup_fst_ne hI.nodup hi hj l1' l2' (by intro e; subst e; simp at hne)
    simp only at g1 g2
    have hr := Lib.run_overlaps_apart (P := C.P) w tS tR e hu size (fun w => run_sizeOf hz) ⟨b1, o1, none⟩ ⟨b2, o2, none⟩ n1 c1 n2 c2 hnb E1 E2 l1.length l2.length (by simp [World.shape?, g1]) (by simp [World.shape?, g2]) (by omega) (by simp [World.frozen?, g1]) (by simp [World.frozen?, g1])
    have h3 := hov #[.slice (some ⟨b1, o1, none⟩) n1 c1, .slice (some ⟨b2, o2, none⟩) n2 c2] w
    rw [hr] at h3
    exact h3) h
/-! ### to unsigned integers and back -/
theorem SXL.cvU (hT : cvP C.P T T' .u64 = true) {A : Int} {k : IntKind} (hx : ev env x = some (.int k A)) (hb : 0 ≤ A ∧ A ≤ 9223372036854775807)
    (h : SXL C ops rest Q ⟨(d, .int .u64 A) :: env, own, D⟩) (hd : Nat.blt d C.n = true := by rfl) (hw : Wanted ops g env = some true := by rfl) :
    SXL C ops ({ dst := some d, op := .convert T T' x, type := ty, pos, after := aft, guard := g } :: rest) Q ⟨env, own, D⟩ :=
  SXL.val rfl hd hw (fun _ e => by cases e) (fun a w ha _ => by
    simp only [execOp, ha.eval hx]
    exact run_val (by rw [run_cv hT, show IntKind.u64.wrap A = A from by rw [IntKind.wrap_u64]; omega])) h
/-- Half of a number. -/
theorem SXL.half {A H : Int} (hx : ev env x = some (.int .u64 A)) {j : IntKind} (hy : ev env y = some (.int j 1)) (hH : A / 2 = H)
    (h : SXL C ops rest Q ⟨(d, .int .u64 H) :: env, own, D⟩) (hd : Nat.blt d C.n = true := by rfl) (hw : Wanted ops g env = some true := by rfl) :
    SXL C ops ({ dst := some d, op := .binOp .shr T x y T', type := ty, pos, after := aft, guard := g } :: rest) Q ⟨env, own, D⟩ :=
  SXL.shr hx hy (by omega) (by
    have : A.fdiv (2 ^ (Min.min (1 : Int).toNat IntKind.u64.bits)) = H := by
      rw [show (2 : Int) ^ (Min.min (1 : Int).toNat IntKind.u64.bits) = 2 from by decide, Int.fdiv_eq_ediv_of_nonneg _ (by omega), hH]
    rw [this]; exact h) hd hw
end
end Go.X

/- A reading more: where it is put, and whether the spring is valid. Nothing of Go stands here. -/
namespace Go.S
/-- How many readings stand before a number. -/
def insN : List Rd → Int → Nat
  | [], _ => 0
  | y :: r, n => if y.num < n then insN r n + 1 else 0
theorem insN_le : ∀ (l : List Rd) (n : Int), insN l n ≤ l.length
  | [], _ => Nat.le_refl _
  | y :: r, n => by
    simp only [insN]
    split
    · have := insN_le r n; simp; omega
    · simp
theorem insN_lt : ∀ (l : List Rd) (n : Int) (j : Nat), j < insN l n → (l.getD j default).num < n
  | [], _, _, h => absurd h (Nat.not_lt_zero _)
  | y :: r, n, j, h => by
    simp only [insN] at h
    split at h
    · rename_i hy
      cases j with
      | zero => simpa using hy
      | succ j => simpa using insN_lt r n j (by omega)
    · omega
theorem insN_ge : ∀ (l : List Rd) (n : Int), insN l n < l.length → n ≤ (l.getD (insN l n) default).num
  | [], _, h => absurd h (by simp)
  | y :: r, n, h => by
    simp only [insN] at h ⊢
    split
    · rename_i hy
      rw [if_pos hy] at h
      simpa using insN_ge r n (by simp at h; omega)
    · rename_i hy
      simp only [List.getD_cons_zero]
      omega
/-- Numbers that rise. -/
def Asc (l : List Rd) : Prop := ∀ i, 0 < i → i < l.length → (l.getD (i - 1) default).num < (l.getD i default).num
theorem asc_lt {l : List Rd} (h : Asc l) {i : Nat} : ∀ d, i + d < l.length → 0 < d → (l.getD i default).num < (l.getD (i + d) default).num
  | 0, _, h0 => absurd h0 (Nat.lt_irrefl _)
  | d + 1, hd, _ => by
    have h1 := h (i + (d + 1)) (by omega) hd
    rw [show i + (d + 1) - 1 = i + d by omega] at h1
    by_cases hz : d = 0
    · subst hz; simpa using h1
    · have := asc_lt h (i := i) d (by omega) (by omega); omega
theorem asc_ins {l : List Rd} (h : Asc l) {n : Int} {k : Nat} (hk : k < l.length) : (l.getD k default).num < n ↔ k < insN l n := by
  constructor
  · intro hlt
    rcases Nat.lt_or_ge k (insN l n) with h1 | h1
    · exact h1
    · exfalso
      have h2 := insN_ge l n (by omega)
      by_cases e : k = insN l n
      · rw [← e] at h2; omega
      · have := asc_lt h (i := insN l n) (k - insN l n) (by omega) (by omega)
        rw [show insN l n + (k - insN l n) = k by omega] at this
        omega
  · exact insN_lt l n k
theorem asc_of {s : Sp} (hv : SpP s) : Asc s.reads := fun i h0 hi => by
  have := (hv.2.2 i hi).2 h0
  simpa [List.getD_eq_getElem?_getD, List.getElem?_eq_getElem hi] using this
def insL (l : List Rd) (x : Rd) : List Rd := l.take (insN l x.num) ++ x :: l.drop (insN l x.num)
def insS (s : Sp) (x : Rd) : Sp := { s with reads := insL s.reads x }
theorem insL_len (l : List Rd) (x : Rd) : (insL l x).length = l.length + 1 := by
  have := insN_le l x.num
  simp [insL]; omega
def addE (s : Sp) (x : Rd) : Int := if ¬SpP s then 10 else if s.reads.length = 12 then 9 else if ¬SpP (insS s x) then 12 else 0
def addS (s : Sp) (x : Rd) : Sp := if addE s x = 0 then insS s x else zeroSp
theorem add_bad {s : Sp} {x : Rd} {e : Int} (h : addE s x = e) (he : e ≠ 0) : addS s x = zeroSp := by rw [addS, if_neg (by omega)]
theorem add_ok {s : Sp} {x : Rd} (h : addE s x = 0) : addS s x = insS s x := by rw [addS, if_pos h]
end Go.S

/- BinarySearchFunc, Insert, Add: the walks. -/
namespace Go.Proofs.YtknflipongbngaaDoor
open Go.X Go.S Go.RowKit
theorem cv_3_175 : cvP Tryd.prog 3 175 .u64 = true := by kernel_rfl
theorem cv_175_3 : cvP Tryd.prog 175 3 .i64 = true := by kernel_rfl
theorem i64_3 : isI64P Tryd.prog 3 = true := by kernel_rfl
theorem ov_rd (args : Array Value) (w : World) : (callFunc 124 args).run Tryd.prog w = ((Extern.SlicesOverlaps.overlaps #[25, 25] #[4] args).run Tryd.prog w).andThen fun v w' => .ok (.value v) w' :=
  run_callFunc_extern Tryd.func124 (by kernel_rfl) (by kernel_rfl) (by kernel_rfl) (by kernel_rfl) args w
/-- A reading put in: the slice behind it; the other blocks stay. -/
structure InsR (l : List Rd) (tail : X.Own) (v : Value) (own : X.Own) : Prop where
  ex : ∃ q : Sl, q.Ok l.length 5 (rdC l) ∧ v = q.val l.length ∧ own = q.ent 54 (rdC l) :: tail
def insAt (l : List Rd) (i : Nat) (x : Rd) : List Rd := l.take i ++ x :: l.drop i
theorem insAt_len (l : List Rd) (i : Nat) (x : Rd) (hi : i ≤ l.length) : (insAt l i x).length = l.length + 1 := by simp [insAt]; omega
theorem rdC_app (a b : List Rd) : rdC (a ++ b) = rdC a ++ rdC b := by simp [rdC]
theorem rdC_cons (x : Rd) (b : List Rd) : rdC (x :: b) = x.cells ++ rdC b := by simp [rdC]
theorem rdC_insAt (l : List Rd) (i : Nat) (x : Rd) : rdC (insAt l i x) = rdC (l.take i) ++ (x.cells ++ rdC (l.drop i)) := by rw [insAt, rdC_app, rdC_cons]
theorem rdC_split (l : List Rd) (i : Nat) : rdC (l.take i) ++ rdC (l.drop i) = rdC l := by rw [← rdC_app, List.take_append_drop]
theorem rdC_len' (l : List Rd) : (rdC l).length = l.length * 5 := by
  rw [rdC, length_flatten (k := 5) (by intro q hq; obtain ⟨x, _, rfl⟩ := List.mem_map.1 hq; rfl), List.length_map]
theorem rdC_one' (l : List Rd) : (rdC l).all isOne = true := by
  rw [List.all_eq_true]; intro v hv
  obtain ⟨q, hq, hv⟩ := List.mem_flatten.1 hv
  obtain ⟨x, _, rfl⟩ := List.mem_map.1 hq
  simp [Rd.cells] at hv
  rcases hv with rfl | rfl | rfl | rfl | rfl <;> rfl
theorem takeAt_mid (a b c : List Value) {off n : Nat} (h1 : a.length = off) (h2 : b.length = n) : takeAt (a ++ (b ++ c)) off n = some b :=
  takeAt_of h2 (fun j hj => by rw [List.getElem?_append_right (by omega), List.getElem?_append_left (by omega)]; congr 1; omega)
theorem putL_mid (a b b' c : List Value) {off : Nat} (h1 : a.length = off) (h2 : b.length = b'.length) : putL (a ++ (b ++ c)) off b' = a ++ (b' ++ c) := by
  have e1 : (a ++ (b ++ c)).take off = a := by rw [← h1, List.take_left']; rfl
  have e2 : (a ++ (b ++ c)).drop (off + b'.length) = c := by
    rw [← List.append_assoc, List.drop_left']; simp; omega
  rw [putL, e1, e2, List.append_assoc]
theorem addc_any (y : Rd) (n : Int) (w : World) :
    CallsR Tryd.prog 90 [.agg ⟨y.cells⟩, .int .i64 n] w (fun v _ => v = .int .i64 (cmpV y.num n)) := by
  refine CallsR.of_SX (n := 9) (rs := [.tmp 4]) Tryd.func90 rfl rfl rfl rfl ?_
  show SX _ _ _ ⟨[(0, .agg ⟨y.cells⟩), (1, .int .i64 n)], [], []⟩
  refine SX.seq ?_
  refine SX.region ?_
  refine SXL.box rfl rfl ?_; intro b0
  refine SXL.assign rfl ?_
  refine SXL.nil ?_
  refine thenQ.normal ?_
  refine SX.seq ?_
  refine SX.region ?_
  refine SXL.fieldAddr fp_54_0 rfl ?_
  refine SXL.load1o 0 sh_3 rfl rfl rfl ?_
  refine SXL.move rfl ?_
  refine SXL.call1 (.int .i64 (cmpV y.num n)) fn_91 rfl (fun w hI => compare_any y.num n _) ?_
  refine SXL.assign rfl ?_
  refine SXL.nil ?_
  refine thenQ.normal ?_
  refine SX.ret ?_
  refine retQ.one (ResAt.tmp rfl) ?_
  first | rfl | assumption
structure BsR (reads : List Rd) (n : Int) (v : Value) : Prop where
  ex : ∃ p : Bool, v = .tuple ⟨[.int .i64 (insN reads n : Nat), .bool p]⟩
theorem rdD {w : World} {reads : List Rd} {ao : Option Addr} (h : RowsAt w ao 5 (reads.map Rd.cells)) {i : Nat} (hi : i < reads.length) : ∃ b o, ao = some ⟨b, o, none⟩ ∧ ∀ own, Mem w own b (o + i * 5) (reads.getD i default).cells :=
  h.get (by simp [hi])
theorem bsearch_any (reads : List Rd) (hA : Asc reads) (ao : Option Addr) (c : Nat) (n : Int) (hl : reads.length ≤ 1000) (w : World) (hro : RowsAt w ao 5 (reads.map Rd.cells)) :
    CallsR Tryd.prog 89 [.slice ao reads.length c, .int .i64 n, .func (.func 90) ⟨[]⟩ ⟨[]⟩] w (fun v _ => BsR reads n v) := by
  refine CallsR.of_SX (n := 49) (rs := [.tmp 6, .tmp 7]) Tryd.func89 rfl rfl rfl rfl ?_
  show SX _ _ _ ⟨[(0, .slice ao reads.length c), (1, .int .i64 n), (2, .func (.func 90) ⟨[]⟩ ⟨[]⟩)], [], []⟩
  refine SX.seq ?_
  refine SX.region ?_
  refine SXL.assign rfl ?_
  refine SXL.assign rfl ?_
  refine SXL.nil ?_
  refine thenQ.normal ?_
  refine SX.seq ?_
  refine SX.region ?_
  refine SXL.move rfl ?_
  refine SXL.len is_25 rfl ?_
  refine SXL.assign rfl ?_
  refine SXL.nil ?_
  refine thenQ.normal ?_
  refine SX.seq ?_
  refine SX.region ?_
  refine SXL.move rfl ?_
  refine SXL.assign rfl ?_
  refine SXL.assign rfl ?_
  refine SXL.nil ?_
  refine thenQ.normal ?_
  refine SX.seq ?_
  refine SX.block ?_
  refine SX.loopG (α := Nat × Nat) [0, 1, 2, 6, 7, 8] rfl (fun ⟨i, j⟩ => [(9, .int .i64 ((i : Int))), (10, .int .i64 ((j : Int)))]) (fun ⟨i, j⟩ => []) (fun ⟨i, j⟩ => (i ≤ insN reads n ∧ insN reads n ≤ j) ∧ j ≤ reads.length) (fun ⟨i, j⟩ => j - i) (0, reads.length) ⟨⟨Nat.zero_le _, insN_le _ _⟩, Nat.le_refl _⟩ ⟨rfl, rfl, trivial⟩ rfl ?_
  rintro ⟨i, j⟩ ⟨⟨hi0, hj0⟩, hjl⟩
  refine SX.seq ?_
  refine SX.seq ?_
  refine SX.region ?_
  refine SXL.move rfl ?_
  refine SXL.move rfl ?_
  refine SXL.lss rfl rfl ?_
  refine SXL.nil ?_
  refine thenQ.normal ?_
  refine SX.condP rfl (fun c1 => ?_) (fun c1 => ?_)
  · refine SX.skip ?_
    refine thenQ.normal ?_
    refine SX.block ?_
    refine SX.seq ?_
    obtain ⟨h, hh⟩ : ∃ h : Nat, ((i : Int) + (j : Int)) / 2 = h := ⟨(i + j) / 2, by omega⟩
    refine SX.region ?_
    refine SXL.move rfl ?_
    refine SXL.move rfl ?_
    refine SXL.add rfl rfl (by omega) ?_
    refine SXL.cvU cv_3_175 rfl (by omega) ?_
    refine SXL.half rfl rfl hh ?_
    refine SXL.cv cv_175_3 rfl (by omega) ?_
    refine SXL.assign rfl ?_
    refine SXL.nil ?_
    refine thenQ.normal ?_
    refine SX.seq ?_
    have hlt : h < reads.length := by omega
    obtain ⟨b, o, ha, hm⟩ := rdD hro hlt
    have hi := asc_ins hA (n := n) hlt
    refine SX.region ?_
    refine SXL.move rfl ?_
    refine SXL.move rfl ?_
    refine SXL.move rfl ?_
    refine SXL.indexR el_25 rfl rfl ha (by omega) ?_
    refine SXL.loadN sh_54 rfl (hm _) rfl ?_
    refine SXL.move rfl ?_
    refine SXL.call1V (.int .i64 (cmpV (reads.getD h default).num n)) fn_90 rfl rfl (fun w hI => addc_any (reads.getD h default) n w) ?_
    refine SXL.lss rfl rfl ?_
    refine SXL.nil ?_
    refine thenQ.normal ?_
    refine SX.condP rfl (fun c31 => ?_) (fun c31 => ?_)
    · refine SX.region ?_
      refine SXL.move rfl ?_
      refine SXL.add rfl rfl (by omega) ?_
      refine SXL.assign rfl ?_
      refine SXL.nil ?_
      refine blockQ.normal ?_
      refine thenQ.normal ?_
      refine ⟨(_, _), Meets.mk _ ⟨rfl, rfl, trivial⟩ ⟨rfl, rfl, rfl, rfl, rfl, rfl, trivial⟩ rfl, ?_, ?_⟩
      · have hc := c31
        rw [cmpV_neg] at hc
        first | (show (h + 1 ≤ _ ∧ _ ≤ j) ∧ j ≤ _; omega) | (show (i ≤ _ ∧ _ ≤ h) ∧ h ≤ _; omega)
      · first | (show j - (h + 1) < j - i; omega) | (show h - i < j - i; omega)
    · refine SX.region ?_
      refine SXL.move rfl ?_
      refine SXL.assign rfl ?_
      refine SXL.nil ?_
      refine blockQ.normal ?_
      refine thenQ.normal ?_
      refine ⟨(_, _), Meets.mk _ ⟨rfl, rfl, trivial⟩ ⟨rfl, rfl, rfl, rfl, rfl, rfl, trivial⟩ rfl, ?_, ?_⟩
      · have hc := c31
        rw [cmpV_neg] at hc
        first | (show (h + 1 ≤ _ ∧ _ ≤ j) ∧ j ≤ _; omega) | (show (i ≤ _ ∧ _ ≤ h) ∧ h ≤ _; omega)
      · first | (show j - (h + 1) < j - i; omega) | (show h - i < j - i; omega)
  · refine SX.exit ?_
    refine thenQ.exit ?_
    refine thenQ.exit ?_
    refine blockQ.exit ?_
    refine thenQ.normal ?_
    refine SX.seq ?_
    obtain rfl : i = insN reads n := by omega
    refine SX.region ?_
    refine SXL.move rfl ?_
    refine SXL.move rfl ?_
    refine SXL.move rfl ?_
    refine SXL.lss rfl rfl ?_
    refine SXL.move rfl ?_
    apply SXL.andG 8
    case hl => exact rfl
    case hd => exact rfl
    case hg => exact rfl
    case ht =>
      intro g3
      obtain ⟨b2, o2, ha2, hm2⟩ := rdD hro (show insN reads n < reads.length by omega)
      refine SXL.move rfl ?_
      refine SXL.move rfl ?_
      refine SXL.move rfl ?_
      refine SXL.indexR el_25 rfl rfl ha2 (by omega) ?_
      refine SXL.loadN sh_54 rfl (hm2 _) rfl ?_
      refine SXL.move rfl ?_
      refine SXL.call1V (.int .i64 (cmpV (reads.getD (insN reads n) default).num n)) fn_90 rfl rfl (fun w hI => addc_any (reads.getD (insN reads n) default) n w) ?_
      refine SXL.eqlI rfl rfl ?_
      exact SXL.nil (segQ.mk (.skip rfl (.skip rfl (.skip rfl (.skip rfl (.skip rfl (.skip rfl (.skip rfl (.skip rfl (.skip rfl (EnvSub.refl _)))))))))) rfl rfl ⟨rfl, rfl⟩)
    case hf =>
      intro g3
      refine SXL.pass rfl rfl rfl ?_
      refine SXL.pass rfl rfl rfl ?_
      refine SXL.pass rfl rfl rfl ?_
      refine SXL.pass rfl rfl rfl ?_
      refine SXL.pass rfl rfl rfl ?_
      refine SXL.pass rfl rfl rfl ?_
      refine SXL.pass rfl rfl rfl ?_
      refine SXL.pass rfl rfl rfl ?_
      exact SXL.nil (segQ.mk (.skip rfl (.skip rfl (.skip rfl (.skip rfl (.skip rfl (.skip rfl (.skip rfl (.skip rfl (.skip rfl (EnvSub.refl _)))))))))) rfl rfl rfl)
    refine SXL.assign rfl ?_
    refine SXL.assign rfl ?_
    refine SXL.nil ?_
    refine thenQ.normal ?_
    refine SX.ret ?_
    refine retQ.two (ResAt.tmp rfl) (ResAt.tmp rfl) ?_
    exact ⟨_, rfl⟩
set_option maxHeartbeats 2000000 in
theorem insert_rd (l : List Rd) (x : Rd) (i : Nat) (hi : i ≤ l.length) (hl : l.length ≤ 1000) (q : Sl) (hq : q.Ok l.length 5 (rdC l)) (b : Nat) (tail : X.Own) (w0 w : World) (hI : Inv w0 (q.ent 54 (rdC l) :: (b, .cells ⟨x.cells⟩ 54 (0, 0)) :: tail) w) :
    Calls Tryd.prog 92 ⟨[q.val l.length, .int .i64 ((i : Int)), .slice (some ⟨b, 0, none⟩) 1 1]⟩ w fun e w' => ∃ v own', e = .returned v ∧ Inv w0 own' w' ∧ (InsR (insAt l i x) tail) v own' := by
  have hcap := hq.cap
  have hmx := hq.max
  have hlen := rdC_len' l
  have hA1 := rdC_len' (l.take i)
  have hB1 := rdC_len' (l.drop i)
  rw [List.length_take, Nat.min_eq_left hi] at hA1
  rw [List.length_drop] at hB1
  have hil := insAt_len l i x hi
  refine Calls.of_SX (n := 95) (rs := [.tmp 6]) (R := InsR (insAt l i x) tail) hI Tryd.func92 rfl rfl rfl rfl ?_
  show SX _ _ _ ⟨[(0, q.val l.length), (1, .int .i64 ((i : Int))), (2, .slice (some ⟨b, 0, none⟩) 1 1)], q.ent 54 (rdC l) :: (b, .cells ⟨x.cells⟩ 54 (0, 0)) :: tail, []⟩
  refine SX.seq ?_
  refine SX.region ?_
  refine SXL.assign rfl ?_
  refine SXL.nil ?_
  refine thenQ.normal ?_
  refine SX.seq ?_
  refine SX.region ?_
  refine SXL.move rfl ?_
  refine SXL.move rfl ?_
  refine SXL.sliceL el_25 rfl rfl (by omega) ?_
  refine SXL.nil ?_
  refine thenQ.normal ?_
  refine SX.seq ?_
  refine SX.region ?_
  refine SXL.move rfl ?_
  refine SXL.len is_25 rfl ?_
  refine SXL.assign rfl ?_
  refine SXL.nil ?_
  refine thenQ.normal ?_
  refine SX.seq ?_
  refine SX.seq ?_
  refine SX.region ?_
  refine SXL.move rfl ?_
  refine SXL.eqlI rfl rfl ?_
  refine SXL.nil ?_
  refine thenQ.normal ?_
  refine SX.condP rfl (fun c16 => ?_) (fun c16 => ?_)
  · exfalso; omega
  refine SX.skip ?_
  refine thenQ.normal ?_
  refine SX.seq ?_
  refine SX.region ?_
  refine SXL.move rfl ?_
  refine SXL.len is_25 rfl ?_
  refine SXL.assign rfl ?_
  refine SXL.nil ?_
  refine thenQ.normal ?_
  refine SX.seq ?_
  refine SX.seq ?_
  refine SX.region ?_
  refine SXL.move rfl ?_
  refine SXL.move rfl ?_
  refine SXL.eqlI rfl rfl ?_
  refine SXL.nil ?_
  refine thenQ.normal ?_
  refine SX.condP rfl (fun c22 => ?_) (fun c22 => ?_)
  · refine SX.seq ?_
    refine SX.region ?_
    refine SXL.move rfl ?_
    refine SXL.move rfl ?_
    refine SXL.append 0 ap_25 rfl rfl hq rfl (.inr ⟨_, _, rfl, Mem.own (i := 1) rfl (takeAt_all _)⟩) rfl rfl ⟨by simp only [maxLen]; omega, by omega⟩ ?_; intro r_25 o_25
    refine SXL.assign rfl ?_
    refine SXL.nil ?_
    refine thenQ.normal ?_
    refine SX.ret ?_
    refine thenQ.ret ?_
    refine retQ.selS (show Sel (r_25.ent 54 (rdC l ++ x.cells) :: tail) (r_25.ent 54 (rdC l ++ x.cells) :: (b, .cells ⟨x.cells⟩ 54 (0, 0)) :: tail) from Sel.sub ((List.sublist_cons_self _ _).cons_cons _)) ?_
    refine retQ.one (ResAt.tmp rfl) ?_
    obtain rfl : i = l.length := by omega
    have e : rdC (insAt l l.length x) = rdC l ++ x.cells := by rw [rdC_insAt, List.take_length, List.drop_length]; simp [rdC]
    exact ⟨r_25, by rw [e, hil]; exact o_25, by rw [hil], by rw [e]⟩
  · refine SX.skip ?_
    refine thenQ.normal ?_
    refine SX.seq ?_
    refine SX.seq ?_
    obtain ⟨g, hg⟩ := hq.some (by omega)
    have hfull := hq.full g hg
    obtain ⟨blk, c, sp⟩ := q
    obtain rfl : blk = some g := hg
    dsimp only at hcap hmx hfull
    have hcE : (Sl.mk (some g) c sp).cap = c := rfl
    have hxc : x.cells.length = 5 := rfl
    have hx1 : x.cells.all isOne = true := rfl
    refine SX.region ?_
    refine SXL.move rfl ?_
    refine SXL.move rfl ?_
    refine SXL.add rfl rfl (by omega) ?_
    refine SXL.move rfl ?_
    refine SXL.cap is_25 rfl ?_
    refine SXL.gtr rfl rfl ?_
    refine SXL.nil ?_
    refine thenQ.normal ?_
    refine SX.condP rfl (fun c31 => ?_) (fun c31 => ?_)
    · refine SX.seq ?_
      refine SX.region ?_
      refine SXL.move rfl ?_
      refine SXL.move rfl ?_
      refine SXL.sliceHo (k := i) el_25 rfl rfl rfl (by omega) ?_
      refine SXL.move rfl ?_
      refine SXL.move rfl ?_
      refine SXL.add rfl rfl (by omega) ?_
      refine SXL.move rfl ?_
      refine SXL.subE (R := ((l.length + 1 - i : Nat) : Int)) rfl rfl (by omega) (by omega) ?_
      refine SXL.appendZ (m := l.length + 1 - i) (olds := (rdC (l.take i))) ap_25 i64_3 rfl rfl ⟨_, _, rfl, Mem.own (i := 0) rfl (show takeAt (rdC l ++ sp) 0 (i * 5) = _ from by rw [← rdC_split l i, List.append_assoc]; exact takeAt_mid [] (rdC (l.take i)) ((rdC (l.drop i)) ++ sp) rfl (by omega))⟩ hA1 (by omega) (by omega) ⟨by simp only [maxLen]; omega, by omega⟩ ?_; intro b2 c2 zs hc1 hc2 hz
      refine SXL.insN 2 ?_
      rw [show i + (l.length + 1 - i) = l.length + 1 from by omega] at hc1 ⊢
      rw [List.length_append] at hz
      obtain ⟨z1, z2, z3, rfl, hz1, hz2⟩ : ∃ z1 z2 z3, zs = z1 ++ (z2 ++ z3) ∧ z1.length = 5 ∧ z2.length = (l.length - i) * 5 := ⟨zs.take 5, (zs.drop 5).take ((l.length - i) * 5), (zs.drop 5).drop ((l.length - i) * 5), by rw [List.take_append_drop, List.take_append_drop], by rw [List.length_take]; omega, by rw [List.length_take, List.length_drop]; omega⟩
      rw [List.length_append, List.length_append] at hz
      refine SXL.assign rfl ?_
      refine SXL.nil ?_
      refine thenQ.normal ?_
      refine SX.seq ?_
      refine SX.region ?_
      refine SXL.move rfl ?_
      refine SXL.move rfl ?_
      refine SXL.sliceLo (k := i) el_25 rfl rfl rfl ⟨by omega, by omega⟩ ?_
      refine SXL.move rfl ?_
      refine SXL.copyE 2 (n := 1) (news := x.cells) (l' := (rdC (l.take i)) ++ (x.cells ++ (z2 ++ z3))) el_25 rfl rfl rfl (by rw [List.length_append, List.length_append]; omega) (Nat.min_eq_left (by omega)) rfl ⟨_, _, rfl, Mem.own (i := 1) rfl (takeAt_all _)⟩ (by simp only [List.length_append]; omega) hx1 (putL_mid (rdC (l.take i)) z1 x.cells (z2 ++ z3) (by omega) (by omega)) ?_
      refine SXL.nil ?_
      refine thenQ.normal ?_
      refine SX.seq ?_
      refine SX.draw 8 (by kernel_rfl) (by kernel_rfl) {} ?_
      refine SXA.take 0 8 rfl (by kernel_rfl) rfl ?_
      refine SXL.move rfl ?_
      refine SXL.move rfl ?_
      refine SXL.move rfl ?_
      refine SXL.add rfl rfl (by omega) ?_
      refine SXL.sliceLo (k := i + 1) el_25 rfl rfl rfl ⟨by omega, by omega⟩ ?_
      refine SXL.move rfl ?_
      refine SXL.move rfl ?_
      refine SXL.sliceLo (k := i) el_25 rfl rfl rfl ⟨by omega, by omega⟩ ?_
      refine SXL.nil ⟨rfl, rfl, rfl, ?_⟩
      refine SXA.done (by kernel_rfl) ?_
      refine SXL.copyE 2 (n := l.length - i) (news := (rdC (l.drop i))) (l' := ((rdC (l.take i)) ++ x.cells) ++ ((rdC (l.drop i)) ++ z3)) el_25 rfl rfl rfl (by simp only [List.length_append]; omega) (Nat.min_eq_left (by omega)) hB1 ⟨_, _, rfl, Mem.own (i := 0) rfl (show takeAt (rdC l ++ sp) (0 + i * 5) _ = _ from by rw [← rdC_split l i, List.append_assoc]; exact takeAt_mid (rdC (l.take i)) (rdC (l.drop i)) sp (by omega) rfl)⟩ (by simp only [List.length_append]; omega) (rdC_one' _) (by rw [← List.append_assoc (rdC (l.take i))]; exact putL_mid ((rdC (l.take i)) ++ x.cells) z2 (rdC (l.drop i)) z3 (by rw [List.length_append]; omega) (by omega)) ?_
      refine SXL.nil ?_
      refine thenQ.normal ?_
      refine SX.seq ?_
      refine SX.region ?_
      refine SXL.move rfl ?_
      refine SXL.assign rfl ?_
      refine SXL.nil ?_
      refine thenQ.normal ?_
      refine SX.ret ?_
      refine thenQ.ret ?_
      refine retQ.selS (show Sel ((b2, .cells ⟨(rdC (l.take i) ++ x.cells) ++ (rdC (l.drop i) ++ z3)⟩ 54 (0, 0)) :: tail) (_ :: (b, .cells ⟨x.cells⟩ 54 (0, 0)) :: (b2, .cells ⟨(rdC (l.take i) ++ x.cells) ++ (rdC (l.drop i) ++ z3)⟩ 54 (0, 0)) :: tail) from Sel.sub ((List.sublist_cons_self _ _).trans (List.sublist_cons_self _ _))) ?_
      refine retQ.one (ResAt.tmp rfl) ?_
      refine ⟨⟨some b2, c2, z3⟩, ⟨by rw [rdC_len', hil], by rw [hil]; exact hc1, hc2, (fun h => by cases h), fun _ _ => ?_⟩, by rw [hil]; rfl, ?_⟩
      · rw [rdC_len', hil]; show _ + z3.length = c2 * 5; omega
      · rw [rdC_insAt]; show _ :: tail = (b2, Obj.cells ⟨((rdC (l.take i)) ++ (x.cells ++ (rdC (l.drop i)))) ++ z3⟩ 54 (0, 0)) :: tail; simp only [List.append_assoc]
    · refine SX.skip ?_
      refine thenQ.normal ?_
      refine SX.seq ?_
      obtain ⟨z1, z2, rfl, hz1⟩ : ∃ z1 z2, sp = z1 ++ z2 ∧ z1.length = 5 := ⟨sp.take 5, sp.drop 5, (List.take_append_drop 5 sp).symm, by rw [List.length_take]; omega⟩
      obtain ⟨K, R1, hKR, hK⟩ : ∃ K R1, (rdC (l.drop i)) ++ z1 = K ++ R1 ∧ K.length = 5 := ⟨((rdC (l.drop i)) ++ z1).take 5, ((rdC (l.drop i)) ++ z1).drop 5, (List.take_append_drop 5 _).symm, by rw [List.length_take, List.length_append]; omega⟩
      have hR1 : R1.length = (rdC (l.drop i)).length := by have h1 := congrArg List.length hKR; rw [List.length_append, List.length_append] at h1; omega
      have hcells : rdC l ++ (z1 ++ z2) = (rdC (l.take i)) ++ (K ++ (R1 ++ z2)) := by rw [← rdC_split l i, List.append_assoc, ← List.append_assoc (rdC (l.drop i)) z1 z2, hKR, List.append_assoc]
      rw [List.length_append] at hfull
      refine SX.region ?_
      refine SXL.move rfl ?_
      refine SXL.move rfl ?_
      refine SXL.move rfl ?_
      refine SXL.add rfl rfl (by omega) ?_
      refine SXL.sliceHo (k := l.length + 1) el_25 rfl rfl (by omega) (by omega) ?_
      refine SXL.assign rfl ?_
      refine SXL.nil ?_
      refine thenQ.normal ?_
      refine SX.seq ?_
      refine SX.seq ?_
      refine SX.region ?_
      refine SXL.move rfl ?_
      refine SXL.move rfl ?_
      refine SXL.move rfl ?_
      refine SXL.move rfl ?_
      refine SXL.add rfl rfl (by omega) ?_
      refine SXL.sliceLo (k := i + 1) el_25 rfl rfl rfl ⟨by omega, by omega⟩ ?_
      refine SXL.overlapsNo (l2 := rdC l ++ (z1 ++ z2)) ov_rd (e := 54) (size := 5) (by kernel_rfl) (by kernel_rfl) 1 0 rfl rfl rfl (by omega) (by simp only [List.length_append]; omega) rfl ?_
      refine SXL.not (p := False) rfl ?_
      refine SXL.nil ?_
      refine thenQ.normal ?_
      refine SX.condP rfl (fun c68 => ?_) (fun c68 => ?_)
      rotate_left
      · exfalso; exact c68 (fun h => h.elim)
      refine SX.seq ?_
      refine SX.draw 8 (by kernel_rfl) (by kernel_rfl) {} ?_
      refine SXA.take 0 8 rfl (by kernel_rfl) rfl ?_
      refine SXL.move rfl ?_
      refine SXL.move rfl ?_
      refine SXL.move rfl ?_
      refine SXL.add rfl rfl (by omega) ?_
      refine SXL.sliceLo (k := i + 1) el_25 rfl rfl rfl ⟨by omega, by omega⟩ ?_
      refine SXL.move rfl ?_
      refine SXL.move rfl ?_
      refine SXL.sliceLo (k := i) el_25 rfl rfl rfl ⟨by omega, by omega⟩ ?_
      refine SXL.nil ⟨rfl, rfl, rfl, ?_⟩
      refine SXA.done (by kernel_rfl) ?_
      refine SXL.copyE 0 (l := rdC l ++ (z1 ++ z2)) (n := l.length - i) (news := (rdC (l.drop i))) (l' := (rdC (l.take i)) ++ (K ++ ((rdC (l.drop i)) ++ z2))) el_25 rfl rfl rfl (by simp only [List.length_append]; omega) ((Nat.min_eq_right (show l.length + 1 - (i + 1) ≤ l.length + 1 - i by omega)).trans (by omega)) hB1 ⟨_, _, rfl, Mem.own (i := 0) rfl (show takeAt (rdC l ++ (z1 ++ z2)) (0 + i * 5) _ = _ from by rw [← rdC_split l i, List.append_assoc]; exact takeAt_mid (rdC (l.take i)) (rdC (l.drop i)) (z1 ++ z2) (by omega) rfl)⟩ (by simp only [List.length_append]; omega) (rdC_one' _) (by rw [hcells, ← List.append_assoc (rdC (l.take i)), putL_mid ((rdC (l.take i)) ++ K) R1 (rdC (l.drop i)) z2 (by rw [List.length_append]; omega) (by omega), List.append_assoc]) ?_
      refine SXL.nil ?_
      refine thenQ.normal ?_
      refine SX.seq ?_
      refine SX.region ?_
      refine SXL.move rfl ?_
      refine SXL.move rfl ?_
      refine SXL.sliceLo (k := i) el_25 rfl rfl rfl ⟨by omega, by omega⟩ ?_
      refine SXL.move rfl ?_
      refine SXL.copyE 0 (n := 1) (news := x.cells) (l' := (rdC (l.take i)) ++ (x.cells ++ ((rdC (l.drop i)) ++ z2))) el_25 rfl rfl rfl (by simp only [List.length_append]; omega) (Nat.min_eq_left (by omega)) rfl ⟨_, _, rfl, Mem.own (i := 1) rfl (takeAt_all _)⟩ (by simp only [List.length_append]; omega) hx1 (putL_mid (rdC (l.take i)) K x.cells ((rdC (l.drop i)) ++ z2) (by omega) (by omega)) ?_
      refine SXL.nil ?_
      refine thenQ.normal ?_
      refine SX.seq ?_
      refine SX.region ?_
      refine SXL.move rfl ?_
      refine SXL.assign rfl ?_
      refine SXL.nil ?_
      refine thenQ.normal ?_
      refine SX.ret ?_
      refine thenQ.ret ?_
      refine retQ.selS (show Sel ((g, .cells ⟨rdC (l.take i) ++ (x.cells ++ (rdC (l.drop i) ++ z2))⟩ 54 (0, 0)) :: tail) ((g, .cells ⟨rdC (l.take i) ++ (x.cells ++ (rdC (l.drop i) ++ z2))⟩ 54 (0, 0)) :: (b, .cells ⟨x.cells⟩ 54 (0, 0)) :: tail) from Sel.sub ((List.sublist_cons_self _ _).cons_cons _)) ?_
      refine retQ.one (ResAt.tmp rfl) ?_
      refine ⟨⟨some g, c, z2⟩, ⟨by rw [rdC_len', hil], by rw [hil]; show _ ≤ c; omega, hmx, (fun h => by cases h), fun _ _ => ?_⟩, by rw [hil]; rfl, ?_⟩
      · rw [rdC_len', hil]; show _ + z2.length = c * 5; omega
      · rw [rdC_insAt]; show _ :: tail = (g, Obj.cells ⟨((rdC (l.take i)) ++ (x.cells ++ (rdC (l.drop i)))) ++ z2⟩ 54 (0, 0)) :: tail; simp only [List.append_assoc]
end Go.Proofs.YtknflipongbngaaDoor

/- Parts of rows in memory. -/
namespace Go.X
open Go Go.RowKit
theorem RowsAt.take {w : World} {ao : Option Addr} {k : Nat} {rows : List (List Value)} (h : RowsAt w ao k rows) (i : Nat) : RowsAt w ao k (rows.take i) := by
  rcases h with rfl | ⟨b, o, rfl, h2⟩
  · left; simp
  · right
    refine ⟨b, o, rfl, fun j r hr => h2 j r ?_⟩
    rw [List.getElem?_take] at hr
    split at hr
    · exact hr
    · cases hr
end Go.X
namespace Go.S
open Go Go.X
end Go.S

/- Add: the walks. -/
namespace Go.Proofs.YtknflipongbngaaDoor
open Go.X Go.S Go.RowKit
set_option maxHeartbeats 2000000 in
theorem sadd_any (s : Sp) (bo ro : Option Addr) (bc rc : Nat) (x : Rd) (hb : s.book.length ≤ 1000000) (hr : s.reads.length ≤ 1000000) (w : World) (hg : Gl w) (hs : SpAt w s bo ro) :
    CallsR Tryd.prog 36 [.agg ⟨[.int .i64 s.weeks, .int .i64 s.most, .int .i64 s.fall, .int .i64 s.a0, .int .i64 s.a1, .int .i64 s.w0, .int .i64 s.w1, (.slice bo s.book.length bc), (.slice ro s.reads.length rc)]⟩, .agg ⟨x.cells⟩] w (SpE (addS s x) (addE s x)) := by
  refine CallsR.of_SX (n := 42) (rs := [.cell 4 27, .tmp 5]) Tryd.func36 rfl rfl rfl rfl ?_
  show SX _ _ _ ⟨[(0, .agg ⟨[.int .i64 s.weeks, .int .i64 s.most, .int .i64 s.fall, .int .i64 s.a0, .int .i64 s.a1, .int .i64 s.w0, .int .i64 s.w1, (.slice bo s.book.length bc), (.slice ro s.reads.length rc)]⟩), (1, .agg ⟨x.cells⟩)], [], []⟩
  refine SX.seq ?_
  refine SX.region ?_
  refine SXL.box rfl rfl ?_; intro b0
  refine SXL.box rfl rfl ?_; intro b1
  refine SXL.alloc zp_27 ?_; intro b2
  refine SXL.assign rfl ?_
  refine SXL.nil ?_
  refine thenQ.normal ?_
  refine SX.seq ?_
  refine SX.seq ?_
  refine SX.region ?_
  refine SXL.loadNo 0 sh_27 rfl rfl rfl ?_
  refine SXL.call1 (.int .i64 (if SpP s then 0 else 10)) fn_26 rfl (fun w hI => scheck_any s bo ro bc rc hb hr _ (hg.inv hI) (hs.inv hI)) ?_
  refine SXL.assign rfl ?_
  refine SXL.nil ?_
  refine thenQ.normal ?_
  refine SX.seq ?_
  refine SX.region ?_
  refine SXL.move rfl ?_
  refine SXL.neqI rfl rfl ?_
  refine SXL.nil ?_
  refine thenQ.normal ?_
  refine SX.condP rfl (fun c12 => ?_) (fun c12 => ?_)
  · refine SX.seq ?_
    have hv : ¬SpP s := fun h => c12 (by rw [if_pos h])
    refine SX.region ?_
    refine SXL.buildS pl_27 zp_27 rfl rfl ?_
    refine SXL.move rfl ?_
    refine SXL.store 2 sz_27 rfl rfl rfl rfl rfl rfl ?_
    refine SXL.assign rfl ?_
    refine SXL.nil ?_
    refine thenQ.normal ?_
    refine SX.ret ?_
    refine thenQ.ret ?_
    refine retQ.dead [Sl.nil.ent 61 [], Sl.nil.ent 54 []] rfl ?_
    refine retQ.two (ResAt.cellNo 2 sh_27 rfl rfl rfl) (ResAt.tmp rfl) ?_
    rw [if_neg hv]
    have he : addE s x = 10 := by rw [addE, if_pos hv]
    rw [add_bad he (by omega), he]; exact SpE.zero _
  · refine SX.skip ?_
    refine thenQ.normal ?_
    refine SX.seq ?_
    refine SX.seq ?_
    have hv : SpP s := Decidable.byContradiction fun h => c12 (by rw [if_neg h]; omega)
    have hH := hv.1
    unfold HeadP at hH
    refine SX.region ?_
    refine SXL.fieldAddr fp_27_6 rfl ?_
    refine SXL.load1o 0 sh_25 rfl rfl rfl ?_
    refine SXL.len is_25 rfl ?_
    refine SXL.eqlI rfl rfl ?_
    refine SXL.nil ?_
    refine thenQ.normal ?_
    refine SX.condP rfl (fun c18 => ?_) (fun c18 => ?_)
    · refine SX.seq ?_
      refine SX.region ?_
      refine SXL.buildS pl_27 zp_27 rfl rfl ?_
      refine SXL.store 2 sz_27 rfl rfl rfl rfl rfl rfl ?_
      refine SXL.assign rfl ?_
      refine SXL.nil ?_
      refine thenQ.normal ?_
      refine SX.ret ?_
      refine thenQ.ret ?_
      refine retQ.dead [Sl.nil.ent 61 [], Sl.nil.ent 54 []] rfl ?_
      refine retQ.two (ResAt.cellNo 2 sh_27 rfl rfl rfl) (ResAt.tmp rfl) ?_
      have he : addE s x = 9 := by rw [addE, if_neg (not_not_intro hv), if_pos (by omega)]
      rw [add_bad he (by omega), he]; exact SpE.zero _
    · refine SX.skip ?_
      refine thenQ.normal ?_
      refine SX.seq ?_
      refine SX.region ?_
      refine SXL.loadNo 0 sh_27 rfl rfl rfl ?_
      refine SXL.callF (SpR s) fn_84 rfl (fun w hI => (swithout_any s bo ro bc rc [] none 0 (by simp) hb hr (nums_nodup hv.2.2) w (hs.inv hI) (.nil _ _ _)).mono (fun v own h => by rw [wo_nil] at h; exact h)) ?_; rintro _ _ ⟨r1, r2, o1, o2, rfl, rfl⟩
      refine SXL.store 0 sz_27 rfl rfl rfl rfl rfl rfl ?_
      refine SXL.nil ?_
      refine thenQ.normal ?_
      refine SX.seq ?_
      refine SX.region ?_
      refine SXL.fieldAddr fp_27_6 rfl ?_
      refine SXL.load1o 0 sh_25 rfl rfl rfl ?_
      refine SXL.fieldAddr fp_54_0 rfl ?_
      refine SXL.load1o 1 sh_3 rfl rfl rfl ?_
      refine SXL.callP (BsR s.reads x.num) fn_89 rfl (fun w hI => bsearch_any s.reads (asc_of hv) r2.addr r2.cap x.num (by omega) w (spAtOwn hI o1 o2 (i := 3) (j := 4) rfl rfl).reads) ?_; rintro _ ⟨pf, rfl⟩
      refine SXL.move rfl ?_
      refine SXL.extract rfl rfl ?_
      refine SXL.extract rfl rfl ?_
      refine SXL.assign rfl ?_
      refine SXL.assign rfl ?_
      refine SXL.nil ?_
      refine thenQ.normal ?_
      refine SX.seq ?_
      refine SX.region ?_
      refine SXL.fieldAddr fp_27_6 rfl ?_
      refine SXL.load1o 0 sh_25 rfl rfl rfl ?_
      refine SXL.move rfl ?_
      refine SXL.loadNo 1 sh_54 rfl rfl rfl ?_
      refine SXL.buildSlice et_25 zp_54 rfl rfl rfl rfl ?_; intro b5
      refine SXL.callM (InsR (insL s.reads x) _) [4, 5, 0, 1, 2, 3] rfl fn_92 rfl (fun w hI => insert_rd s.reads x (insN s.reads x.num) (insN_le _ _) (by omega) r2 o2 _ _ _ w hI) ?_; rintro _ _ ⟨q, oq, rfl, rfl⟩
      refine SXL.selO [1, 2, 3, 4, 0] rfl ?_
      refine SXL.fieldAddr fp_27_6 rfl ?_
      refine SXL.store 0 sz_25 rfl rfl rfl rfl rfl rfl ?_
      refine SXL.nil ?_
      refine thenQ.normal ?_
      refine SX.seq ?_
      refine SX.seq ?_
      refine SX.region ?_
      refine SXL.loadNo 0 sh_27 rfl rfl rfl ?_
      refine SXL.call1 (.int .i64 (if SpP (insS s x) then 0 else 10)) fn_26 rfl (fun w hI => scheck_any (insS s x) r1.addr q.addr r1.cap q.cap (show s.book.length ≤ _ by omega) (show (insL s.reads x).length ≤ _ by rw [insL_len]; omega) _ (hg.inv hI) (spAtOwn (s := (insS s x)) hI o1 oq (i := 3) (j := 4) rfl rfl)) ?_
      refine SXL.neqI rfl rfl ?_
      refine SXL.nil ?_
      refine thenQ.normal ?_
      refine SX.condP rfl (fun c39 => ?_) (fun c39 => ?_)
      · refine SX.seq ?_
        have hw : ¬SpP (insS s x) := fun h => c39 (by rw [if_pos h])
        refine SX.region ?_
        refine SXL.buildS pl_27 zp_27 rfl rfl ?_
        refine SXL.store 2 sz_27 rfl rfl rfl rfl rfl rfl ?_
        refine SXL.assign rfl ?_
        refine SXL.nil ?_
        refine thenQ.normal ?_
        refine SX.ret ?_
        refine thenQ.ret ?_
        refine retQ.dead [Sl.nil.ent 61 [], Sl.nil.ent 54 []] rfl ?_
        refine retQ.two (ResAt.cellNo 2 sh_27 rfl rfl rfl) (ResAt.tmp rfl) ?_
        have he : addE s x = 12 := by rw [addE, if_neg (not_not_intro hv), if_neg (by omega), if_pos hw]
        rw [add_bad he (by omega), he]; exact SpE.zero _
      · refine SX.skip ?_
        refine thenQ.normal ?_
        refine SX.seq ?_
        have hw : SpP (insS s x) := Decidable.byContradiction fun h => c39 (by rw [if_neg h]; omega)
        refine SX.region ?_
        refine SXL.loadNo 0 sh_27 rfl rfl rfl ?_
        refine SXL.store 2 sz_27 rfl rfl rfl rfl rfl rfl ?_
        refine SXL.assign rfl ?_
        refine SXL.nil ?_
        refine thenQ.normal ?_
        refine SX.ret ?_
        refine retQ.sel [3, 4] rfl rfl ?_
        refine retQ.two (ResAt.cellNo 2 sh_27 rfl rfl rfl) (ResAt.tmp rfl) ?_
        have he : addE s x = 0 := by rw [addE, if_neg (not_not_intro hv), if_neg (by omega), if_neg (not_not_intro hw)]
        rw [add_ok he, he]; exact ⟨r1, q, o1, oq, rfl, rfl⟩
end Go.Proofs.YtknflipongbngaaDoor

/- A reading struck and put back; springs with fewer truths. Nothing of Go stands here. -/
namespace Go.S
open Go.X (G)
/-! ### fewer truths -/
/-- All truths of one spring are the other's. -/
structure Less (s' s : Sp) : Prop where
  weeks : s'.weeks = s.weeks
  sub : ∀ r t, Wi r s'.w0 s'.w1 → Truth s' r t → Wi r s.w0 s.w1 ∧ Truth s r t
/-! ### readings and lines more -/
/-! ### a reading struck and put back -/
/-! ### what a reading tells alone -/
/-! ### a number that no reading has -/
def nextTo (l : List Rd) : Nat → Int
  | 0 => 1
  | k + 1 => if (l.getD k default).num = nextTo l k then nextTo l k + 1 else nextTo l k
def nextN (s : Sp) : Int := nextTo s.reads s.reads.length
end Go.S

/- SpringRests: the walk. -/
namespace Go.Proofs.YtknflipongbngaaDoor
open Go.X Go.S Go.RowKit
end Go.Proofs.YtknflipongbngaaDoor

/- SpringMore: the walk. -/
namespace Go.Proofs.YtknflipongbngaaDoor
open Go.X Go.S Go.RowKit
end Go.Proofs.YtknflipongbngaaDoor

/- Both ends of what is told come about. Nothing of Go stands here. -/
namespace Go.S
open Go.X (G)
/-- A rain, and what is given week by week, are a truth. -/
def HoldsP (s : Sp) (rain : Int) (l : List Int) : Prop := (l.length = s.weeks.toNat ∧ Wi rain s.w0 s.w1) ∧ TruthTo s rain l s.weeks.toNat
/-- One rain, of which it is told what it gives in a week. -/
def onlyB (s : Sp) (rain : Int) : List Ln := s.book.filter fun x => decide (Wi rain x.r0 x.r1)
def onlyS (s : Sp) (rain wk n : Int) : Sp := { s with w0 := rain, w1 := rain, book := onlyB s rain ++ [⟨rain, rain, wk, n, n⟩] }
/-- One rain. -/
def oneR (s : Sp) (rain : Int) : Sp := { s with w0 := rain, w1 := rain }
/-- With some rain of the first ones it comes about. -/
def orTo (s : Sp) (k : Nat) (n : Int) : Nat → Prop
  | 0 => False
  | j + 1 => orTo s k n j ∨ TrueP (onlyS s (s.w0 + (j : Int)) k n)
instance orDec (s : Sp) (k : Nat) (n : Int) : ∀ j, Decidable (orTo s k n j)
  | 0 => inferInstanceAs (Decidable False)
  | j + 1 => @instDecidableOr _ _ (orDec s k n j) (inferInstanceAs (Decidable (TrueP (onlyS s (s.w0 + (j : Int)) k n))))
/-! ### the truths that are told -/
/-! ### the rains -/
end Go.S

/- One rain, and what holds: the walks. -/
namespace Go.Proofs.YtknflipongbngaaDoor
open Go.X Go.S Go.RowKit
def lnC (l : List Ln) : List Value := (l.map Ln.cells).flatten
abbrev rainP (rain : Int) : Ln → Bool := fun x => decide (Wi rain x.r0 x.r1)
end Go.Proofs.YtknflipongbngaaDoor

/- SpringEnds: the walk. -/
namespace Go.Proofs.YtknflipongbngaaDoor
open Go.X Go.S Go.RowKit
end Go.Proofs.YtknflipongbngaaDoor

/- The examples of the whole chapter: what is told of them. -/
namespace Go.Proofs.YtknflipongbngaaDoor
open Go.X Go.S Go.RowKit
def tornS : Sp := { fnt with a0 := 0 }
def dryS : Sp := { fnt with fall := 13 }
def fullS (k : Nat) : Sp := { fnt with reads := fnt.reads ++ (List.range k).map fun i => ⟨(i : Int) + 2, 3, 1, 0, 99⟩ }
def zLn : Ln := ⟨0, 0, 0, 0, 0⟩
def longS (k : Nat) : Sp := { fnt with book := fnt.book ++ List.replicate k zLn }
def ex1 : Ln := ⟨1, 2, 3, 0, 100⟩
def ex2 : Ln := ⟨0, 0, 4, 0, 0⟩
theorem ey_g0 : givesLo fnt 0 = 26 ∧ givesHi fnt 0 = 33 ∧ toldE fnt 0 = 0 := by decide +kernel
theorem ey_g2 : givesLo fnt 2 = 10 ∧ givesHi fnt 2 = 25 ∧ toldE fnt 2 = 0 := by decide +kernel
theorem ey_g3 : givesLo fnt 3 = 2 ∧ givesHi fnt 3 = 25 ∧ toldE fnt 3 = 0 := by decide +kernel
theorem ey_k2 : knownV fnt 2 26 = 0 := by decide +kernel
theorem ey_k1 : knownV fnt 1 20 = 1 ∧ toldE fnt 1 = 0 := by decide +kernel
theorem ey_f26 : wkV fnt (loI fnt 26) = 1 ∧ wkE fnt (loI fnt 26) = 0 := by decide +kernel
theorem ey_can : SpP oddS ∧ ¬TrueP oddS := by decide +kernel
theorem ey_add : addS fnt oddR = oddS ∧ addE fnt oddR = 0 := by decide +kernel
theorem ey_write : writeS fnt ex1 = withLine fnt ex1 ∧ writeE fnt ex1 = 0 := by decide +kernel
theorem ey_torn : ¬SpP tornS := by decide +kernel
theorem ey_o4 : givesLo oddS 4 = 0 ∧ givesHi oddS 4 = 0 ∧ toldE oddS 4 = 11 := by decide +kernel
theorem ey_or : toldL oddS 0 = [] ∧ toldE oddS 0 = 8 := by decide +kernel
theorem ey_ok : knownV oddS 0 0 = 0 := by decide +kernel
theorem ey_f2 : wkV fnt (loI fnt 2) = 0 ∧ wkE fnt (loI fnt 2) = 6 := by decide +kernel
theorem ey_s20 : wkV fnt (hiI fnt 20) = 0 ∧ wkE fnt (hiI fnt 20) = 6 := by decide +kernel
theorem ey_poor : bestR oddS (poorI oddS) = 0 ∧ bestL oddS 0 (poorI oddS) = [] := by decide +kernel
theorem ey_rich : bestR oddS (richI oddS) = 0 ∧ bestL oddS 10 (richI oddS) = [] := by decide +kernel
theorem ey_l4 : fillLo oddS 4 0 = 0 ∧ fillHi oddS 4 0 = 0 ∧ fillE oddS 4 0 = 11 := by decide +kernel
theorem ey_l3 : fillLo oddS 3 0 = 0 ∧ fillHi oddS 3 0 = 0 ∧ fillE oddS 3 0 = 14 := by decide +kernel
theorem ey_ld : fillLo dryS 3 1 = 0 ∧ fillHi dryS 3 1 = 0 ∧ fillE dryS 3 1 = 6 := by decide +kernel
theorem ey_look : lookW oddS = 0 ∧ lookV oddS = 0 := by decide +kernel
theorem ey_r0 : readLo oddS ⟨0, 1, 1, 1, 1⟩ = 0 ∧ readHi oddS ⟨0, 1, 1, 1, 1⟩ = 0 ∧ readE oddS ⟨0, 1, 1, 1, 1⟩ = 12 := by decide +kernel
theorem ey_r1 : readLo oddS ⟨1, 1, 10, 9, 10⟩ = 0 ∧ readHi oddS ⟨1, 1, 10, 9, 10⟩ = 0 ∧ readE oddS ⟨1, 1, 10, 9, 10⟩ = 6 := by decide +kernel
theorem ey_rests : restsL oddS 4 = [] := by decide +kernel
theorem ey_a9 : addS (fullS 11) ⟨0, 0, 0, 0, 0⟩ = zeroSp ∧ addE (fullS 11) ⟨0, 0, 0, 0, 0⟩ = 9 := by decide +kernel
theorem ey_a12 : addS fnt ⟨1, 0, 1, 0, 1⟩ = zeroSp ∧ addE fnt ⟨1, 0, 1, 0, 1⟩ = 12 := by decide +kernel
theorem ey_w9 : writeS (longS 6) zLn = zeroSp ∧ writeE (longS 6) zLn = 9 := by decide +kernel
theorem ey_w13 : writeS fnt ex2 = zeroSp ∧ writeE fnt ex2 = 13 := by decide +kernel
theorem ey_st : strikeS fnt [2] = zeroSp ∧ strikeE fnt [2] = 12 := by decide +kernel
theorem full_reads (k : Nat) : readsC (fullS (k + 1)) = readsC (fullS k) ++ (Rd.mk ((k : Int) + 2) 3 1 0 99).cells := by
  simp [readsC, fullS, List.range_succ]
theorem full_len (k : Nat) : (fullS k).reads.length = k + 1 := by simp [fullS, fnt, fntM]
theorem long_book (k : Nat) : bookC (longS (k + 1)) = bookC (longS k) ++ zLn.cells := by
  simp [bookC, longS, List.replicate_succ']
theorem long_len (k : Nat) : (longS k).book.length = k + 2 := by simp [longS, fnt, fntM]
end Go.Proofs.YtknflipongbngaaDoor
