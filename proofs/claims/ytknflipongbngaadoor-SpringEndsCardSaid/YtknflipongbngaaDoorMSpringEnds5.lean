/- SpringEnds: whatever the input, the law returns true and the input reads as it did. Its condition: the package's variables are as the program's text lays them (the card ties them). -/
import Derived.Test.YtknflipongbngaaDoorMSpringEnds4
import Derived.Lib.Overlaps
import Derived.Lib.AppendZeros
import Derived.SevenTiedAt
/- The walks of functions. -/
namespace Go.Proofs.YtknflipongbngaaDoor
open Go.X Go.S Go.RowKit
/-- What the closure that strikes finds: the spring, itself. -/
structure StAt (w : World) (s : Sp) (bo ro : Option Addr) (bc rc b3 b4 : Nat) : Prop where
  sp : ∀ j v, (sp9 s bo ro bc rc)[j]? = some v → w.cell? ⟨b3, 0 + j, none⟩ = some v
  fn : w.cell? ⟨b4, 0, none⟩ = some (.func (.func 86) ⟨[]⟩ ⟨[.pointer (some ⟨b3, 0, none⟩), .pointer (some ⟨b4, 0, none⟩)]⟩)
theorem StAt.inv {w0 w : World} {own : X.Own} {s : Sp} {bo ro : Option Addr} {bc rc b3 b4 : Nat} (h : StAt w0 s bo ro bc rc b3 b4) (hI : Inv w0 own w) : StAt w s bo ro bc rc b3 b4 :=
  ⟨fun j v hj => cell_keep (h.sp j v hj) hI.below, cell_keep h.fn hI.below⟩
theorem strike0 (s : Sp) (bo ro : Option Addr) (bc rc : Nat) (b3 b4 : Nat) (hv : SpP s) (i : Nat) (l : List Int) (ao : Option Addr) (n c : Nat) (hn : l.length = n) (hn2 : n + 0 ≤ 1000) (lao : Option Addr) (ln lc : Nat) (_hln : ln = s.reads.length - i) (_hlc : ln ≤ lc) (w : World) (hg : Gl w) (hs : SpAt w s bo ro) (hst0 : StAt w s bo ro bc rc b3 b4) (hl : RowsAt w ao 1 (ones l)) (_hll : RowsAt w lao 1 (ones ((numsL s).drop i))) :
    CallsR Tryd.prog 86 [.slice ao n c, .slice lao ln lc, .int .i64 0, .pointer (some ⟨b3, 0, none⟩), .pointer (some ⟨b4, 0, none⟩)] w (fun v _ => v = .tuple ⟨[.slice ao n c, .bool (decide (SpP (wo s l) ∧ TrueP (wo s l)))]⟩) := by
  have hH := hv.1
  unfold HeadP at hH
  refine CallsR.of_SX (n := 53) (rs := [.tmp 8, .tmp 9]) Tryd.func86 rfl rfl rfl rfl ?_
  show SX _ _ _ ⟨[(0, .slice ao n c), (1, .slice lao ln lc), (2, .int .i64 0), (3, .pointer (some ⟨b3, 0, none⟩)), (4, .pointer (some ⟨b4, 0, none⟩))], [], []⟩
  subst hn
  refine SX.seq ?_
  refine SX.region ?_
  refine SXL.assign rfl ?_
  refine SXL.assign rfl ?_
  refine SXL.nil ?_
  refine thenQ.normal ?_
  refine SX.seq ?_
  refine SX.seq ?_
  refine SX.region ?_
  refine SXL.move rfl ?_
  refine SXL.eqlI rfl rfl ?_
  refine SXL.nil ?_
  refine thenQ.normal ?_
  refine SX.condP rfl (fun c17 => ?_) (fun c17 => ?_)
  rotate_left
  · exfalso; exact c17 rfl
  refine SX.seq ?_
  refine SX.region ?_
  refine SXL.loadN sh_27 rfl (Mem.out hst0.sp) rfl ?_
  refine SXL.move rfl ?_
  refine SXL.callF (SpR (wo s l)) fn_84 rfl (fun w hI => swithout_any s bo ro bc rc l ao c (by omega) (by omega) (by omega) (nums_nodup hv.2.2) w (hs.inv hI) (hl.inv hI)) ?_; rintro _ _ ⟨r1, r2, o1, o2, rfl, rfl⟩
  refine SXL.call1 (.tuple ⟨[.bool (decide (SpP (wo s l) ∧ TrueP (wo s l))), .int .i64 (if SpP (wo s l) then 0 else 10)]⟩) fn_18 rfl (fun w hI => scan_any (wo s l) r1.addr r2.addr r1.cap r2.cap (show s.book.length ≤ _ by omega) (by have := keepR_len s.reads l; show (keepR _ _).length ≤ _; omega) _ (hg.inv hI) (spAtOwn hI o1 o2 (i := 0) (j := 1) rfl rfl)) ?_
  refine SXL.move rfl ?_
  refine SXL.extract rfl rfl ?_
  refine SXL.extract rfl rfl ?_
  refine SXL.assign rfl ?_
  refine SXL.assign rfl ?_
  refine SXL.nil ?_
  refine thenQ.normal ?_
  refine SX.seq ?_
  refine SX.region ?_
  refine SXL.move rfl ?_
  refine SXL.move rfl ?_
  refine SXL.assign rfl ?_
  refine SXL.assign rfl ?_
  refine SXL.nil ?_
  refine thenQ.normal ?_
  refine SX.ret ?_
  refine thenQ.ret ?_
  refine retQ.dead [] rfl ?_
  refine retQ.two (ResAt.tmp rfl) (ResAt.tmp rfl) ?_
  rfl
set_option maxHeartbeats 2000000 in
theorem strike1 (s : Sp) (bo ro : Option Addr) (bc rc : Nat) (b3 b4 : Nat) (hv : SpP s) (i : Nat) (l : List Int) (ao : Option Addr) (n c : Nat) (hn : l.length = n) (hn2 : n + 1 ≤ 1000) (lao : Option Addr) (ln lc : Nat) (hln : ln = s.reads.length - i) (hlc : ln ≤ lc) (w : World) (hg : Gl w) (hs : SpAt w s bo ro) (hst0 : StAt w s bo ro bc rc b3 b4) (hl : RowsAt w ao 1 (ones l)) (hll : RowsAt w lao 1 (ones ((numsL s).drop i))) :
    CallsR Tryd.prog 86 [.slice ao n c, .slice lao ln lc, .int .i64 1, .pointer (some ⟨b3, 0, none⟩), .pointer (some ⟨b4, 0, none⟩)] w (FrR (struckP s 1 i l)) := by
  have hH := hv.1
  unfold HeadP at hH
  refine CallsR.of_SX (n := 53) (rs := [.tmp 8, .tmp 9]) Tryd.func86 rfl rfl rfl rfl ?_
  show SX _ _ _ ⟨[(0, .slice ao n c), (1, .slice lao ln lc), (2, .int .i64 1), (3, .pointer (some ⟨b3, 0, none⟩)), (4, .pointer (some ⟨b4, 0, none⟩))], [], []⟩
  subst hn
  have hnl := length_numsL s
  refine SX.seq ?_
  refine SX.region ?_
  refine SXL.assign rfl ?_
  refine SXL.assign rfl ?_
  refine SXL.nil ?_
  refine thenQ.normal ?_
  refine SX.seq ?_
  refine SX.seq ?_
  refine SX.region ?_
  refine SXL.move rfl ?_
  refine SXL.eqlI rfl rfl ?_
  refine SXL.nil ?_
  refine thenQ.normal ?_
  refine SX.condP rfl (fun c17 => ?_) (fun c17 => ?_)
  · exfalso; omega
  refine SX.skip ?_
  refine thenQ.normal ?_
  refine SX.seq ?_
  refine SX.seq ?_
  refine SX.region ?_
  refine SXL.move rfl ?_
  refine SXL.len is_35 rfl ?_
  refine SXL.move rfl ?_
  refine SXL.nil ?_
  refine thenQ.normal ?_
  refine SX.block ?_
  refine SX.loopG (α := Nat) [0, 1, 2, 4, 8, 9, 27, 28] rfl (fun k => [(29, .int .i64 ((k : Int)))]) (fun k => []) (fun k => struckP s 1 i l = struckP s 1 (i + k) l ∧ k ≤ ln) (fun k => ln - k) 0 ⟨rfl, Nat.zero_le _⟩ ⟨rfl, trivial⟩ rfl ?_
  rintro k ⟨hst, hkl⟩
  refine SX.seq ?_
  refine SX.region ?_
  refine SXL.lss rfl rfl ?_
  refine SXL.nil ?_
  refine thenQ.normal ?_
  refine SX.seq ?_
  refine SX.condP rfl (fun c2 => ?_) (fun c2 => ?_)
  · refine SX.skip ?_
    refine thenQ.normal ?_
    refine SX.seq ?_
    refine SX.block ?_
    refine SX.seq ?_
    have hk : i + k < s.reads.length := by omega
    obtain ⟨b, o, ha, hm⟩ := oneI hll (i := k) (by simp; omega)
    have ex : ((numsL s).drop i).getD k 0 = (s.reads.getD (i + k) default).num := by simp [numsL, hk]
    rw [ex] at hm
    refine SX.region ?_
    refine SXL.move rfl ?_
    refine SXL.indexR el_35 rfl rfl ha (by omega) ?_
    refine SXL.load1 sh_3 rfl (hm _) ?_
    refine SXL.assign rfl ?_
    refine SXL.assign rfl ?_
    refine SXL.nil ?_
    refine thenQ.normal ?_
    refine SX.seq ?_
    refine SX.draw 18 (by kernel_rfl) (by kernel_rfl) ⟨[0, 1, 3, 6, 7, 8, 9, 10, 11, 12, 13, 14, 15, 16, 17], [false, false]⟩ ?_
    refine SXA.takeM 0 2 rfl (by kernel_rfl) rfl ?_
    refine SXL.load1 sh_135 rfl (Mem.out1 hst0.fn) ?_
    refine SXL.move rfl ?_
    refine SXL.nil ⟨rfl, rfl, rfl, ?_⟩
    refine SXA.takeM 3 1 rfl (by kernel_rfl) rfl ?_
    refine SXL.move rfl ?_
    refine SXL.nil ⟨rfl, rfl, rfl, ?_⟩
    refine SXA.takeM 6 6 rfl (by kernel_rfl) rfl ?_
    refine SXL.move rfl ?_
    refine SXL.move rfl ?_
    refine SXL.add rfl rfl (by omega) ?_
    refine SXL.sliceL el_35 rfl rfl (by omega) ?_
    refine SXL.move rfl ?_
    refine SXL.sub rfl rfl (by omega) ?_
    refine SXL.nil ⟨rfl, rfl, rfl, ?_⟩
    refine SXA.all [2, 4] (by kernel_rfl) rfl ⟨⟨?_, rfl⟩, ⟨?_, rfl⟩, trivial⟩
    · refine (show SXL _ _ [_] _ _ from ?_)
      refine SXL.callF (IsI l) fn_87 rfl (fun w hI => cloneInts l ao c (by omega) w (hl.inv hI)) ?_; rintro _ _ ⟨r37, o37, rfl, rfl⟩
      refine SXL.nil (stepQ.mk _ rfl rfl ?_)
      refine SXA.all [4] (by kernel_rfl) rfl ⟨⟨?_, rfl⟩, trivial⟩
      refine (show SXL _ _ [_] _ _ from ?_)
      refine SXL.buildSlice et_35 zp_3 rfl rfl rfl rfl ?_; intro b1
      refine SXL.nil (stepQ.mk _ rfl rfl ?_)
      refine SXA.all [5] (by kernel_rfl) rfl ⟨⟨?_, rfl⟩, trivial⟩
      refine (show SXL _ _ [_] _ _ from ?_)
      refine SXL.append 0 ap_35 rfl rfl o37 rfl (.inr ⟨_, _, rfl, Mem.own (i := 1) rfl (takeAt_all _)⟩) rfl rfl ⟨by simp only [maxLen]; omega, by omega⟩ ?_; intro r_40 o_40
      refine SXL.nil (stepQ.mkL _ (by kernel_rfl) rfl rfl ?_)
      refine SXA.all [12] (by kernel_rfl) rfl ⟨⟨?_, rfl⟩, trivial⟩
      refine (show SXL _ _ [_] _ _ from ?_)
      refine SXL.callV (fun v _ => v = .tuple ⟨[r_40.val (l.length + 1), .bool (decide (SpP (wo s (l ++ [(s.reads.getD (i + k) default).num])) ∧ TrueP (wo s (l ++ [(s.reads.getD (i + k) default).num]))))]⟩) fn_86 rfl rfl (fun w hI => strike0 s bo ro bc rc b3 b4 hv (i + k + 1) (l ++ [(s.reads.getD (i + k) default).num]) r_40.addr (l.length + 1) r_40.cap (by simp) (by omega) (cutAddr lao (k + 1) lc 1) (ln - (k + 1)) (lc - (k + 1)) (by omega) (by omega) w (hg.inv hI) (hs.inv hI) (hst0.inv hI) (slOnes hI (l := (l ++ [(s.reads.getD (i + k) default).num])) (by rw [ints_snoc]; exact o_40) (i := 0) (by rw [ints_snoc]; rfl)) (by have := (RowsAt.cut1 hll (i := k + 1) (c := lc) (by simp; omega)).inv hI; rwa [List.drop_drop] at this)) ?_; rintro _ ow rfl
      refine SXL.nil (stepQ.mk _ rfl rfl ?_)
      refine SXA.takeM 13 5 rfl (by kernel_rfl) rfl ?_
      refine SXL.move rfl ?_
      refine SXL.extract rfl rfl ?_
      refine SXL.extract rfl rfl ?_
      refine SXL.assign rfl ?_
      refine SXL.assign rfl ?_
      refine SXL.nil ⟨rfl, rfl, rfl, ?_⟩
      refine SXA.done (by kernel_rfl) ?_
      refine SXL.nil ?_
      refine thenQ.normal ?_
      refine SX.seq ?_
      refine SX.region ?_
      refine SXL.move rfl ?_
      refine SXL.nil ?_
      refine thenQ.normal ?_
      refine SX.condP rfl (fun c50 => ?_) (fun c50 => ?_)
      · refine SX.seq ?_
        refine SX.region ?_
        refine SXL.move rfl ?_
        refine SXL.assign rfl ?_
        refine SXL.assign rfl ?_
        refine SXL.nil ?_
        refine thenQ.normal ?_
        refine SX.ret ?_
        refine blockQ.ret ?_
        refine thenQ.ret ?_
        refine thenQ.ret ?_
        refine blockQ.ret ?_
        refine thenQ.ret ?_
        refine retQ.sel [0] rfl rfl ?_
        refine retQ.two (ResAt.tmp rfl) (ResAt.tmp rfl) ?_
        refine Eq.mp (congrArg (fun c => FrR _ _ [Sl.ent r_40 3 c]) (ints_snoc l (s.reads.getD (i + k) default).num)) ?_
        exact FrR.some (p := True) (hst.trans (by rw [struck_step hk]; simp only [struckP, if_pos c50.2])) (by rw [ints_snoc]; exact o_40) trivial
      · refine SX.skip ?_
        refine blockQ.normal ?_
        refine thenQ.normal ?_
        refine SX.region ?_
        refine SXL.add rfl rfl (by omega) ?_
        refine SXL.move rfl ?_
        refine SXL.nil ?_
        refine thenQ.normal ?_
        refine ⟨k + 1, Meets.mk _ ⟨rfl, trivial⟩ ⟨rfl, rfl, rfl, rfl, rfl, rfl, rfl, rfl, trivial⟩ rfl, ⟨by rw [hst, struck_step hk]; simp only [struckP, if_neg (fun h => c50 ⟨wo_valid hv _, h⟩)]; rfl, by omega⟩, (by omega)⟩
    · refine (show SXL _ _ [_] _ _ from ?_)
      refine SXL.buildSlice et_35 zp_3 rfl rfl rfl rfl ?_; intro b0
      refine SXL.nil (stepQ.mk _ rfl rfl ?_)
      refine SXA.all [2] (by kernel_rfl) rfl ⟨⟨?_, rfl⟩, trivial⟩
      refine (show SXL _ _ [_] _ _ from ?_)
      refine SXL.callF (IsI l) fn_87 rfl (fun w hI => cloneInts l ao c (by omega) w (hl.inv hI)) ?_; rintro _ _ ⟨r37, o37, rfl, rfl⟩
      refine SXL.nil (stepQ.mk _ rfl rfl ?_)
      refine SXA.all [5] (by kernel_rfl) rfl ⟨⟨?_, rfl⟩, trivial⟩
      refine (show SXL _ _ [_] _ _ from ?_)
      refine SXL.append 1 ap_35 rfl rfl o37 rfl (.inr ⟨_, _, rfl, Mem.own (i := 0) rfl (takeAt_all _)⟩) rfl rfl ⟨by simp only [maxLen]; omega, by omega⟩ ?_; intro r_40 o_40
      refine SXL.nil (stepQ.mkL _ (by kernel_rfl) rfl rfl ?_)
      refine SXA.all [12] (by kernel_rfl) rfl ⟨⟨?_, rfl⟩, trivial⟩
      refine (show SXL _ _ [_] _ _ from ?_)
      refine SXL.callV (fun v _ => v = .tuple ⟨[r_40.val (l.length + 1), .bool (decide (SpP (wo s (l ++ [(s.reads.getD (i + k) default).num])) ∧ TrueP (wo s (l ++ [(s.reads.getD (i + k) default).num]))))]⟩) fn_86 rfl rfl (fun w hI => strike0 s bo ro bc rc b3 b4 hv (i + k + 1) (l ++ [(s.reads.getD (i + k) default).num]) r_40.addr (l.length + 1) r_40.cap (by simp) (by omega) (cutAddr lao (k + 1) lc 1) (ln - (k + 1)) (lc - (k + 1)) (by omega) (by omega) w (hg.inv hI) (hs.inv hI) (hst0.inv hI) (slOnes hI (l := (l ++ [(s.reads.getD (i + k) default).num])) (by rw [ints_snoc]; exact o_40) (i := 1) (by rw [ints_snoc]; rfl)) (by have := (RowsAt.cut1 hll (i := k + 1) (c := lc) (by simp; omega)).inv hI; rwa [List.drop_drop] at this)) ?_; rintro _ ow rfl
      refine SXL.nil (stepQ.mk _ rfl rfl ?_)
      refine SXA.takeM 13 5 rfl (by kernel_rfl) rfl ?_
      refine SXL.move rfl ?_
      refine SXL.extract rfl rfl ?_
      refine SXL.extract rfl rfl ?_
      refine SXL.assign rfl ?_
      refine SXL.assign rfl ?_
      refine SXL.nil ⟨rfl, rfl, rfl, ?_⟩
      refine SXA.done (by kernel_rfl) ?_
      refine SXL.nil ?_
      refine thenQ.normal ?_
      refine SX.seq ?_
      refine SX.region ?_
      refine SXL.move rfl ?_
      refine SXL.nil ?_
      refine thenQ.normal ?_
      refine SX.condP rfl (fun c50 => ?_) (fun c50 => ?_)
      · refine SX.seq ?_
        refine SX.region ?_
        refine SXL.move rfl ?_
        refine SXL.assign rfl ?_
        refine SXL.assign rfl ?_
        refine SXL.nil ?_
        refine thenQ.normal ?_
        refine SX.ret ?_
        refine blockQ.ret ?_
        refine thenQ.ret ?_
        refine thenQ.ret ?_
        refine blockQ.ret ?_
        refine thenQ.ret ?_
        refine retQ.sel [1] rfl rfl ?_
        refine retQ.two (ResAt.tmp rfl) (ResAt.tmp rfl) ?_
        refine Eq.mp (congrArg (fun c => FrR _ _ [Sl.ent r_40 3 c]) (ints_snoc l (s.reads.getD (i + k) default).num)) ?_
        exact FrR.some (p := True) (hst.trans (by rw [struck_step hk]; simp only [struckP, if_pos c50.2])) (by rw [ints_snoc]; exact o_40) trivial
      · refine SX.skip ?_
        refine blockQ.normal ?_
        refine thenQ.normal ?_
        refine SX.region ?_
        refine SXL.add rfl rfl (by omega) ?_
        refine SXL.move rfl ?_
        refine SXL.nil ?_
        refine thenQ.normal ?_
        refine ⟨k + 1, Meets.mk _ ⟨rfl, trivial⟩ ⟨rfl, rfl, rfl, rfl, rfl, rfl, rfl, rfl, trivial⟩ rfl, ⟨by rw [hst, struck_step hk]; simp only [struckP, if_neg (fun h => c50 ⟨wo_valid hv _, h⟩)]; rfl, by omega⟩, (by omega)⟩
  · refine SX.exit ?_
    refine thenQ.exit ?_
    refine thenQ.exit ?_
    refine blockQ.exit ?_
    refine thenQ.normal ?_
    refine SX.seq ?_
    refine SX.region ?_
    refine SXL.assign rfl ?_
    refine SXL.assign rfl ?_
    refine SXL.nil ?_
    refine thenQ.normal ?_
    refine SX.ret ?_
    refine retQ.dead [Sl.nil.ent 3 []] rfl ?_
    refine retQ.two (ResAt.tmp rfl) (ResAt.tmp rfl) ?_
    exact FrR.none (hst.trans (struck_done (by omega)))
set_option maxHeartbeats 2000000 in
theorem strike2 (s : Sp) (bo ro : Option Addr) (bc rc : Nat) (b3 b4 : Nat) (hv : SpP s) (i : Nat) (l : List Int) (ao : Option Addr) (n c : Nat) (hn : l.length = n) (hn2 : n + 2 ≤ 1000) (lao : Option Addr) (ln lc : Nat) (hln : ln = s.reads.length - i) (hlc : ln ≤ lc) (w : World) (hg : Gl w) (hs : SpAt w s bo ro) (hst0 : StAt w s bo ro bc rc b3 b4) (hl : RowsAt w ao 1 (ones l)) (hll : RowsAt w lao 1 (ones ((numsL s).drop i))) :
    CallsR Tryd.prog 86 [.slice ao n c, .slice lao ln lc, .int .i64 2, .pointer (some ⟨b3, 0, none⟩), .pointer (some ⟨b4, 0, none⟩)] w (FrR (struckP s 2 i l)) := by
  have hH := hv.1
  unfold HeadP at hH
  refine CallsR.of_SX (n := 53) (rs := [.tmp 8, .tmp 9]) Tryd.func86 rfl rfl rfl rfl ?_
  show SX _ _ _ ⟨[(0, .slice ao n c), (1, .slice lao ln lc), (2, .int .i64 2), (3, .pointer (some ⟨b3, 0, none⟩)), (4, .pointer (some ⟨b4, 0, none⟩))], [], []⟩
  subst hn
  have hnl := length_numsL s
  refine SX.seq ?_
  refine SX.region ?_
  refine SXL.assign rfl ?_
  refine SXL.assign rfl ?_
  refine SXL.nil ?_
  refine thenQ.normal ?_
  refine SX.seq ?_
  refine SX.seq ?_
  refine SX.region ?_
  refine SXL.move rfl ?_
  refine SXL.eqlI rfl rfl ?_
  refine SXL.nil ?_
  refine thenQ.normal ?_
  refine SX.condP rfl (fun c17 => ?_) (fun c17 => ?_)
  · exfalso; omega
  refine SX.skip ?_
  refine thenQ.normal ?_
  refine SX.seq ?_
  refine SX.seq ?_
  refine SX.region ?_
  refine SXL.move rfl ?_
  refine SXL.len is_35 rfl ?_
  refine SXL.move rfl ?_
  refine SXL.nil ?_
  refine thenQ.normal ?_
  refine SX.block ?_
  refine SX.loopG (α := Nat) [0, 1, 2, 4, 8, 9, 27, 28] rfl (fun k => [(29, .int .i64 ((k : Int)))]) (fun k => []) (fun k => struckP s 2 i l = struckP s 2 (i + k) l ∧ k ≤ ln) (fun k => ln - k) 0 ⟨rfl, Nat.zero_le _⟩ ⟨rfl, trivial⟩ rfl ?_
  rintro k ⟨hst, hkl⟩
  refine SX.seq ?_
  refine SX.region ?_
  refine SXL.lss rfl rfl ?_
  refine SXL.nil ?_
  refine thenQ.normal ?_
  refine SX.seq ?_
  refine SX.condP rfl (fun c2 => ?_) (fun c2 => ?_)
  · refine SX.skip ?_
    refine thenQ.normal ?_
    refine SX.seq ?_
    refine SX.block ?_
    refine SX.seq ?_
    have hk : i + k < s.reads.length := by omega
    obtain ⟨b, o, ha, hm⟩ := oneI hll (i := k) (by simp; omega)
    have ex : ((numsL s).drop i).getD k 0 = (s.reads.getD (i + k) default).num := by simp [numsL, hk]
    rw [ex] at hm
    refine SX.region ?_
    refine SXL.move rfl ?_
    refine SXL.indexR el_35 rfl rfl ha (by omega) ?_
    refine SXL.load1 sh_3 rfl (hm _) ?_
    refine SXL.assign rfl ?_
    refine SXL.assign rfl ?_
    refine SXL.nil ?_
    refine thenQ.normal ?_
    refine SX.seq ?_
    refine SX.draw 18 (by kernel_rfl) (by kernel_rfl) ⟨[0, 1, 3, 6, 7, 8, 9, 10, 11, 12, 13, 14, 15, 16, 17], [false, false, false]⟩ ?_
    refine SXA.takeM 0 2 rfl (by kernel_rfl) rfl ?_
    refine SXL.load1 sh_135 rfl (Mem.out1 hst0.fn) ?_
    refine SXL.move rfl ?_
    refine SXL.nil ⟨rfl, rfl, rfl, ?_⟩
    refine SXA.takeM 3 1 rfl (by kernel_rfl) rfl ?_
    refine SXL.move rfl ?_
    refine SXL.nil ⟨rfl, rfl, rfl, ?_⟩
    refine SXA.takeM 6 6 rfl (by kernel_rfl) rfl ?_
    refine SXL.move rfl ?_
    refine SXL.move rfl ?_
    refine SXL.add rfl rfl (by omega) ?_
    refine SXL.sliceL el_35 rfl rfl (by omega) ?_
    refine SXL.move rfl ?_
    refine SXL.sub rfl rfl (by omega) ?_
    refine SXL.nil ⟨rfl, rfl, rfl, ?_⟩
    refine SXA.all [2, 4] (by kernel_rfl) rfl ⟨⟨?_, rfl⟩, ⟨?_, rfl⟩, trivial⟩
    · refine (show SXL _ _ [_] _ _ from ?_)
      refine SXL.callF (IsI l) fn_87 rfl (fun w hI => cloneInts l ao c (by omega) w (hl.inv hI)) ?_; rintro _ _ ⟨r37, o37, rfl, rfl⟩
      refine SXL.nil (stepQ.mk _ rfl rfl ?_)
      refine SXA.all [4] (by kernel_rfl) rfl ⟨⟨?_, rfl⟩, trivial⟩
      refine (show SXL _ _ [_] _ _ from ?_)
      refine SXL.buildSlice et_35 zp_3 rfl rfl rfl rfl ?_; intro b1
      refine SXL.nil (stepQ.mk _ rfl rfl ?_)
      refine SXA.all [5] (by kernel_rfl) rfl ⟨⟨?_, rfl⟩, trivial⟩
      refine (show SXL _ _ [_] _ _ from ?_)
      refine SXL.append 0 ap_35 rfl rfl o37 rfl (.inr ⟨_, _, rfl, Mem.own (i := 1) rfl (takeAt_all _)⟩) rfl rfl ⟨by simp only [maxLen]; omega, by omega⟩ ?_; intro r_40 o_40
      refine SXL.nil (stepQ.mkL _ (by kernel_rfl) rfl rfl ?_)
      refine SXA.all [12] (by kernel_rfl) rfl ⟨⟨?_, rfl⟩, trivial⟩
      refine (show SXL _ _ [_] _ _ from ?_)
      refine SXL.callV (FrR (struckP s 1 (i + k + 1) (l ++ [(s.reads.getD (i + k) default).num]))) fn_86 rfl rfl (fun w hI => strike1 s bo ro bc rc b3 b4 hv (i + k + 1) (l ++ [(s.reads.getD (i + k) default).num]) r_40.addr (l.length + 1) r_40.cap (by simp) (by omega) (cutAddr lao (k + 1) lc 1) (ln - (k + 1)) (lc - (k + 1)) (by omega) (by omega) w (hg.inv hI) (hs.inv hI) (hst0.inv hI) (slOnes hI (l := (l ++ [(s.reads.getD (i + k) default).num])) (by rw [ints_snoc]; exact o_40) (i := 0) (by rw [ints_snoc]; rfl)) (by have := (RowsAt.cut1 hll (i := k + 1) (c := lc) (by simp; omega)).inv hI; rwa [List.drop_drop] at this)) ?_; rintro _ _ ⟨q, oq, rfl, rfl⟩
      refine SXL.nil (stepQ.mk _ rfl rfl ?_)
      refine SXA.takeM 13 5 rfl (by kernel_rfl) rfl ?_
      refine SXL.move rfl ?_
      refine SXL.extract rfl rfl ?_
      refine SXL.extract rfl rfl ?_
      refine SXL.assign rfl ?_
      refine SXL.assign rfl ?_
      refine SXL.nil ⟨rfl, rfl, rfl, ?_⟩
      refine SXA.done (by kernel_rfl) ?_
      refine SXL.nil ?_
      refine thenQ.normal ?_
      refine SX.seq ?_
      refine SX.region ?_
      refine SXL.move rfl ?_
      refine SXL.nil ?_
      refine thenQ.normal ?_
      refine SX.condP rfl (fun c50 => ?_) (fun c50 => ?_)
      · refine SX.seq ?_
        refine SX.region ?_
        refine SXL.move rfl ?_
        refine SXL.assign rfl ?_
        refine SXL.assign rfl ?_
        refine SXL.nil ?_
        refine thenQ.normal ?_
        refine SX.ret ?_
        refine blockQ.ret ?_
        refine thenQ.ret ?_
        refine thenQ.ret ?_
        refine blockQ.ret ?_
        refine thenQ.ret ?_
        refine retQ.sel [2] rfl rfl ?_
        refine retQ.two (ResAt.tmp rfl) (ResAt.tmp rfl) ?_
        exact FrR.some (p := True) (hst.trans (by rw [struck_step hk, isSome_get c50]; rfl)) oq trivial
      · refine SX.skip ?_
        refine blockQ.normal ?_
        refine thenQ.normal ?_
        refine SX.region ?_
        refine SXL.add rfl rfl (by omega) ?_
        refine SXL.move rfl ?_
        refine SXL.nil ?_
        refine thenQ.normal ?_
        refine ⟨k + 1, Meets.mk _ ⟨rfl, trivial⟩ ⟨rfl, rfl, rfl, rfl, rfl, rfl, rfl, rfl, trivial⟩ rfl, ⟨by rw [hst, struck_step hk, isSome_false c50]; rfl, by omega⟩, (by omega)⟩
    · refine (show SXL _ _ [_] _ _ from ?_)
      refine SXL.buildSlice et_35 zp_3 rfl rfl rfl rfl ?_; intro b0
      refine SXL.nil (stepQ.mk _ rfl rfl ?_)
      refine SXA.all [2] (by kernel_rfl) rfl ⟨⟨?_, rfl⟩, trivial⟩
      refine (show SXL _ _ [_] _ _ from ?_)
      refine SXL.callF (IsI l) fn_87 rfl (fun w hI => cloneInts l ao c (by omega) w (hl.inv hI)) ?_; rintro _ _ ⟨r37, o37, rfl, rfl⟩
      refine SXL.nil (stepQ.mk _ rfl rfl ?_)
      refine SXA.all [5] (by kernel_rfl) rfl ⟨⟨?_, rfl⟩, trivial⟩
      refine (show SXL _ _ [_] _ _ from ?_)
      refine SXL.append 1 ap_35 rfl rfl o37 rfl (.inr ⟨_, _, rfl, Mem.own (i := 0) rfl (takeAt_all _)⟩) rfl rfl ⟨by simp only [maxLen]; omega, by omega⟩ ?_; intro r_40 o_40
      refine SXL.nil (stepQ.mkL _ (by kernel_rfl) rfl rfl ?_)
      refine SXA.all [12] (by kernel_rfl) rfl ⟨⟨?_, rfl⟩, trivial⟩
      refine (show SXL _ _ [_] _ _ from ?_)
      refine SXL.callV (FrR (struckP s 1 (i + k + 1) (l ++ [(s.reads.getD (i + k) default).num]))) fn_86 rfl rfl (fun w hI => strike1 s bo ro bc rc b3 b4 hv (i + k + 1) (l ++ [(s.reads.getD (i + k) default).num]) r_40.addr (l.length + 1) r_40.cap (by simp) (by omega) (cutAddr lao (k + 1) lc 1) (ln - (k + 1)) (lc - (k + 1)) (by omega) (by omega) w (hg.inv hI) (hs.inv hI) (hst0.inv hI) (slOnes hI (l := (l ++ [(s.reads.getD (i + k) default).num])) (by rw [ints_snoc]; exact o_40) (i := 1) (by rw [ints_snoc]; rfl)) (by have := (RowsAt.cut1 hll (i := k + 1) (c := lc) (by simp; omega)).inv hI; rwa [List.drop_drop] at this)) ?_; rintro _ _ ⟨q, oq, rfl, rfl⟩
      refine SXL.nil (stepQ.mk _ rfl rfl ?_)
      refine SXA.takeM 13 5 rfl (by kernel_rfl) rfl ?_
      refine SXL.move rfl ?_
      refine SXL.extract rfl rfl ?_
      refine SXL.extract rfl rfl ?_
      refine SXL.assign rfl ?_
      refine SXL.assign rfl ?_
      refine SXL.nil ⟨rfl, rfl, rfl, ?_⟩
      refine SXA.done (by kernel_rfl) ?_
      refine SXL.nil ?_
      refine thenQ.normal ?_
      refine SX.seq ?_
      refine SX.region ?_
      refine SXL.move rfl ?_
      refine SXL.nil ?_
      refine thenQ.normal ?_
      refine SX.condP rfl (fun c50 => ?_) (fun c50 => ?_)
      · refine SX.seq ?_
        refine SX.region ?_
        refine SXL.move rfl ?_
        refine SXL.assign rfl ?_
        refine SXL.assign rfl ?_
        refine SXL.nil ?_
        refine thenQ.normal ?_
        refine SX.ret ?_
        refine blockQ.ret ?_
        refine thenQ.ret ?_
        refine thenQ.ret ?_
        refine blockQ.ret ?_
        refine thenQ.ret ?_
        refine retQ.sel [2] rfl rfl ?_
        refine retQ.two (ResAt.tmp rfl) (ResAt.tmp rfl) ?_
        exact FrR.some (p := True) (hst.trans (by rw [struck_step hk, isSome_get c50]; rfl)) oq trivial
      · refine SX.skip ?_
        refine blockQ.normal ?_
        refine thenQ.normal ?_
        refine SX.region ?_
        refine SXL.add rfl rfl (by omega) ?_
        refine SXL.move rfl ?_
        refine SXL.nil ?_
        refine thenQ.normal ?_
        refine ⟨k + 1, Meets.mk _ ⟨rfl, trivial⟩ ⟨rfl, rfl, rfl, rfl, rfl, rfl, rfl, rfl, trivial⟩ rfl, ⟨by rw [hst, struck_step hk, isSome_false c50]; rfl, by omega⟩, (by omega)⟩
  · refine SX.exit ?_
    refine thenQ.exit ?_
    refine thenQ.exit ?_
    refine blockQ.exit ?_
    refine thenQ.normal ?_
    refine SX.seq ?_
    refine SX.region ?_
    refine SXL.assign rfl ?_
    refine SXL.assign rfl ?_
    refine SXL.nil ?_
    refine thenQ.normal ?_
    refine SX.ret ?_
    refine retQ.dead [Sl.nil.ent 3 []] rfl ?_
    refine retQ.two (ResAt.tmp rfl) (ResAt.tmp rfl) ?_
    exact FrR.none (hst.trans (struck_done (by omega)))
theorem strikeTop (s : Sp) (bo ro : Option Addr) (bc rc b3 b4 : Nat) (hv : SpP s) (m : Nat) (hm : m < 3) (lao : Option Addr) (lc : Nat) (hlc : (numsL s).length ≤ lc) (w : World) (hg : Gl w) (hs : SpAt w s bo ro) (hst0 : StAt w s bo ro bc rc b3 b4) (hll : RowsAt w lao 1 (ones (numsL s))) :
    CallsR Tryd.prog 86 [.slice none 0 0, .slice lao (numsL s).length lc, .int .i64 (m : Int), .pointer (some ⟨b3, 0, none⟩), .pointer (some ⟨b4, 0, none⟩)] w (FrR (struckP s m 0 [])) := by
  have e := length_numsL s
  match m, hm with
  | 0, _ =>
    refine (strike0 s bo ro bc rc b3 b4 hv 0 [] none 0 0 rfl (by omega) lao _ lc (by omega) hlc w hg hs hst0 (.nil _ _ _) hll).own0 fun v e => ?_
    subst e
    simp only [struckP]
    have hv2 := wo_valid hv []
    by_cases h : TrueP (wo s [])
    · rw [if_pos h]; exact ⟨Sl.nil, Sl.Ok.none _, by simp [Sl.val, Sl.nil, Sl.addr, h, hv2], rfl⟩
    · rw [if_neg h]; exact ⟨Sl.nil, Sl.Ok.none _, by simp [Sl.val, Sl.nil, Sl.addr, h], rfl⟩
  | 1, _ => exact strike1 s bo ro bc rc b3 b4 hv 0 [] none 0 0 rfl (by omega) lao _ lc (by omega) hlc w hg hs hst0 (.nil _ _ _) hll
  | 2, _ => exact strike2 s bo ro bc rc b3 b4 hv 0 [] none 0 0 rfl (by omega) lao _ lc (by omega) hlc w hg hs hst0 (.nil _ _ _) hll
set_option maxHeartbeats 2000000 in
theorem swrong_any (s : Sp) (bo ro : Option Addr) (bc rc : Nat) (hb : s.book.length ≤ 1000000) (hr : s.reads.length ≤ 1000000) (w : World) (hg : Gl w) (hs : SpAt w s bo ro) :
    CallsR Tryd.prog 34 [.agg ⟨[.int .i64 s.weeks, .int .i64 s.most, .int .i64 s.fall, .int .i64 s.a0, .int .i64 s.a1, .int .i64 s.w0, .int .i64 s.w1, (.slice bo s.book.length bc), (.slice ro s.reads.length rc)]⟩] w (IsR2 (wrongL s) (wrongE s)) := by
  refine CallsR.of_SX (n := 42) (rs := [.tmp 2, .tmp 3]) Tryd.func34 rfl rfl rfl rfl ?_
  show SX _ _ _ ⟨[(0, .agg ⟨[.int .i64 s.weeks, .int .i64 s.most, .int .i64 s.fall, .int .i64 s.a0, .int .i64 s.a1, .int .i64 s.w0, .int .i64 s.w1, (.slice bo s.book.length bc), (.slice ro s.reads.length rc)]⟩)], [], []⟩
  refine SX.seq ?_
  refine SX.region ?_
  refine SXL.box rfl rfl ?_; intro b0
  refine SXL.assign rfl ?_
  refine SXL.assign rfl ?_
  refine SXL.nil ?_
  refine thenQ.normal ?_
  refine SX.seq ?_
  refine SX.seq ?_
  refine SX.region ?_
  refine SXL.loadNo 0 sh_27 rfl rfl rfl ?_
  refine SXL.call1 (.int .i64 (if SpP s then 0 else 10)) fn_26 rfl (fun w hI => scheck_any s bo ro bc rc hb hr _ (hg.inv hI) (hs.inv hI)) ?_
  refine SXL.assign rfl ?_
  refine SXL.nil ?_
  refine thenQ.normal ?_
  refine SX.seq ?_
  refine SX.region ?_
  refine SXL.move rfl ?_
  refine SXL.neqI rfl rfl ?_
  refine SXL.nil ?_
  refine thenQ.normal ?_
  refine SX.condP rfl (fun c15 => ?_) (fun c15 => ?_)
  · refine SX.seq ?_
    have hv : ¬SpP s := fun h => c15 (by rw [if_pos h])
    refine SX.region ?_
    refine SXL.move rfl ?_
    refine SXL.assign rfl ?_
    refine SXL.assign rfl ?_
    refine SXL.nil ?_
    refine thenQ.normal ?_
    refine SX.ret ?_
    refine thenQ.ret ?_
    refine retQ.dead [Sl.nil.ent 3 []] rfl ?_
    refine retQ.two (ResAt.tmp rfl) (ResAt.tmp rfl) ?_
    rw [if_neg hv, wrongL, if_neg hv, wrongE, if_pos hv]; exact ⟨Sl.nil, Sl.Ok.none _, rfl, rfl⟩
  · refine SX.skip ?_
    refine thenQ.normal ?_
    refine SX.seq ?_
    have hv : SpP s := Decidable.byContradiction fun h => c15 (by rw [if_neg h]; omega)
    have hnl := length_numsL s
    have hH := hv.1
    unfold HeadP at hH
    refine SX.region ?_
    refine SXL.loadNo 0 sh_27 rfl rfl rfl ?_
    refine SXL.callF (IsI (numsL s)) fn_83 rfl (fun w hI => numbers_any s bo ro bc rc hb hr w (hs.inv hI)) ?_; rintro _ _ ⟨q0, o0, rfl, rfl⟩
    refine SXL.assign rfl ?_
    refine SXL.nil ?_
    refine thenQ.normal ?_
    refine SX.seq ?_
    refine SX.seq ?_
    refine SX.region ?_
    refine SXL.loadNo 0 sh_27 rfl rfl rfl ?_
    refine SXL.move rfl ?_
    refine SXL.callF (SpR (wo s (numsL s))) fn_84 rfl (fun w hI => swithout_any s bo ro bc rc (numsL s) q0.addr q0.cap (by omega) hb hr (nums_nodup hv.2.2) w (hs.inv hI) (slOnes hI o0 (i := 1) rfl)) ?_; rintro _ _ ⟨r1, r2, o1, o2, rfl, rfl⟩
    refine SXL.call1 (.tuple ⟨[.bool (decide (SpP (wo s (numsL s)) ∧ TrueP (wo s (numsL s)))), .int .i64 (if SpP (wo s (numsL s)) then 0 else 10)]⟩) fn_18 rfl (fun w hI => scan_any (wo s (numsL s)) r1.addr r2.addr r1.cap r2.cap hb (by have := keepR_len s.reads (numsL s); show (keepR _ _).length ≤ _; omega) _ (hg.inv hI) (spAtOwn hI o1 o2 (i := 2) (j := 3) rfl rfl)) ?_
    refine SXL.move rfl ?_
    refine SXL.extract rfl rfl ?_
    refine SXL.extract rfl rfl ?_
    refine SXL.assign rfl ?_
    refine SXL.assign rfl ?_
    refine SXL.nil ?_
    refine thenQ.normal ?_
    refine SX.seq ?_
    refine SX.region ?_
    refine SXL.move rfl ?_
    refine SXL.not rfl ?_
    refine SXL.nil ?_
    refine thenQ.normal ?_
    refine SX.condP rfl (fun c27 => ?_) (fun c27 => ?_)
    · refine SX.seq ?_
      have hno : ¬TrueP { s with reads := [] } := fun h => c27 ⟨wo_valid hv _, wo_all ▸ h⟩
      refine SX.region ?_
      refine SXL.assign rfl ?_
      refine SXL.assign rfl ?_
      refine SXL.nil ?_
      refine thenQ.normal ?_
      refine SX.ret ?_
      refine thenQ.ret ?_
      refine retQ.dead [Sl.nil.ent 3 []] rfl ?_
      refine retQ.two (ResAt.tmp rfl) (ResAt.tmp rfl) ?_
      rw [wrongL, if_pos hv, wrongE, if_neg (not_not_intro hv), wrong_none hv hno, if_neg (by simp), if_pos hno]; exact ⟨Sl.nil, Sl.Ok.none _, rfl, rfl⟩
    · refine SX.skip ?_
      refine thenQ.normal ?_
      refine SX.seq ?_
      refine SX.region ?_
      refine SXL.alloc zp_135 ?_; intro b4
      refine SXL.nil ?_
      refine thenQ.normal ?_
      refine SX.seq ?_
      refine SX.region ?_
      refine SXL.makeFunc rfl rfl ?_
      refine SXL.store 4 sz_135 rfl rfl rfl rfl rfl rfl ?_
      refine SXL.nil ?_
      refine thenQ.normal ?_
      refine SX.seq ?_
      refine SX.seq ?_
      refine SX.region ?_
      refine SXL.move rfl ?_
      refine SXL.nil ?_
      refine thenQ.normal ?_
      refine SX.block ?_
      refine SX.loopG (α := Nat) [2, 3, 5, 8] rfl (fun m => [(29, .int .i64 ((m : Int)))]) (fun m => []) (fun m => m ≤ 3 ∧ ∀ k, k < m → struckP s k 0 [] = none) (fun m => 3 - m) 0 ⟨by omega, fun k h => absurd h (Nat.not_lt_zero _)⟩ ⟨rfl, trivial⟩ rfl ?_
      rintro m ⟨hm3, hall⟩
      refine SX.seq ?_
      refine SX.region ?_
      refine SXL.lss rfl rfl ?_
      refine SXL.nil ?_
      refine thenQ.normal ?_
      refine SX.seq ?_
      refine SX.condP rfl (fun c3 => ?_) (fun c3 => ?_)
      · refine SX.skip ?_
        refine thenQ.normal ?_
        refine SX.seq ?_
        refine SX.block ?_
        refine SX.seq ?_
        refine SX.region ?_
        refine SXL.move rfl ?_
        refine SXL.assign rfl ?_
        refine SXL.nil ?_
        refine thenQ.normal ?_
        refine SX.seq ?_
        refine SX.region ?_
        refine SXL.load1o 4 sh_135 rfl rfl rfl ?_
        refine SXL.move rfl ?_
        refine SXL.move rfl ?_
        refine SXL.callV (FrR (struckP s m 0 [])) fn_86 rfl rfl (fun w hI => strikeTop s bo ro bc rc b0 b4 hv m (by omega) q0.addr q0.cap o0.cap w (hg.inv hI) (hs.inv hI) ⟨fun j v hj => by rw [Nat.zero_add]; exact ownCell hI (i := 0) rfl hj, ownCell hI (i := 4) (j := 0) rfl rfl⟩ (slOnes hI o0 (i := 1) rfl)) ?_; rintro _ _ ⟨q, oq, rfl, rfl⟩
        refine SXL.move rfl ?_
        refine SXL.extract rfl rfl ?_
        refine SXL.extract rfl rfl ?_
        refine SXL.assign rfl ?_
        refine SXL.assign rfl ?_
        refine SXL.nil ?_
        refine thenQ.normal ?_
        refine SX.seq ?_
        refine SX.region ?_
        refine SXL.move rfl ?_
        refine SXL.nil ?_
        refine thenQ.normal ?_
        refine SX.condP rfl (fun c39 => ?_) (fun c39 => ?_)
        · refine SX.seq ?_
          refine SX.region ?_
          refine SXL.move rfl ?_
          refine SXL.assign rfl ?_
          refine SXL.assign rfl ?_
          refine SXL.nil ?_
          refine thenQ.normal ?_
          refine SX.ret ?_
          refine blockQ.ret ?_
          refine thenQ.ret ?_
          refine thenQ.ret ?_
          refine blockQ.ret ?_
          refine thenQ.ret ?_
          refine retQ.sel [5] rfl rfl ?_
          refine retQ.two (ResAt.tmp rfl) (ResAt.tmp rfl) ?_
          have hw := wrongF_at (by omega) hall (isSome_get c39)
          rw [wrongL, if_pos hv, hw, wrongE, if_neg (not_not_intro hv), hw]; exact ⟨q, oq, rfl, rfl⟩
        · refine SX.skip ?_
          refine blockQ.normal ?_
          refine thenQ.normal ?_
          refine SX.region ?_
          refine SXL.add rfl rfl (by omega) ?_
          refine SXL.move rfl ?_
          refine SXL.nil ?_
          refine thenQ.normal ?_
          refine ⟨m + 1, Meets.mk _ ⟨rfl, trivial⟩ ⟨rfl, rfl, rfl, rfl, trivial⟩ rfl, ⟨by omega, fun k hk => by
            by_cases e : k = m
            · subst e; exact isSome_false c39
            · exact hall k (by omega)⟩, (by omega)⟩
      · refine SX.exit ?_
        refine thenQ.exit ?_
        refine thenQ.exit ?_
        refine blockQ.exit ?_
        refine thenQ.normal ?_
        refine SX.seq ?_
        have hnone : wrongF s = none := wrongF_no fun k hk => hall k (by omega)
        have hyes : TrueP { s with reads := [] } := wo_all ▸ (Decidable.not_not.1 c27).2
        refine SX.region ?_
        refine SXL.assign rfl ?_
        refine SXL.assign rfl ?_
        refine SXL.nil ?_
        refine thenQ.normal ?_
        refine SX.ret ?_
        refine retQ.dead [Sl.nil.ent 3 []] rfl ?_
        refine retQ.two (ResAt.tmp rfl) (ResAt.tmp rfl) ?_
        rw [wrongL, if_pos hv, wrongE, if_neg (not_not_intro hv), hnone, if_neg (by simp), if_neg (not_not_intro hyes)]; exact ⟨Sl.nil, Sl.Ok.none _, rfl, rfl⟩
end Go.Proofs.YtknflipongbngaaDoor

/- Springs that are handed back with an error: struck readings, a line more. -/
namespace Go.S
open Go Go.X
def zeroSp : Sp := ⟨0, 0, 0, 0, 0, 0, 0, [], []⟩
/-- A spring and an error. -/
structure SpE (s : Sp) (e : Int) (v : Value) (own : X.Own) : Prop where
  ex : ∃ r1 r2 : Sl, r1.Ok s.book.length 5 (bookC s) ∧ r2.Ok s.reads.length 5 (readsC s) ∧ v = .tuple ⟨[spV s r1 r2, .int .i64 e]⟩ ∧ own = [r1.ent 61 (bookC s), r2.ent 54 (readsC s)]
theorem SpE.zero (e : Int) : SpE zeroSp e (.tuple ⟨[.agg ⟨[.int .i64 0, .int .i64 0, .int .i64 0, .int .i64 0, .int .i64 0, .int .i64 0, .int .i64 0, .slice none 0 0, .slice none 0 0]⟩, .int .i64 e]⟩) [Sl.nil.ent 61 [], Sl.nil.ent 54 []] :=
  ⟨Sl.nil, Sl.nil, Sl.Ok.none _, Sl.Ok.none _, rfl, rfl⟩
/-- Numbers of readings, in order. -/
def StrikeOk (s : Sp) (ns : List Int) : Prop := ∀ i, i < ns.length → ns.getD i 0 ∈ numsL s ∧ (0 < i → ns.getD (i - 1) 0 < ns.getD i 0)
instance (s : Sp) (ns : List Int) : Decidable (StrikeOk s ns) := by unfold StrikeOk; infer_instance
def strikeE (s : Sp) (ns : List Int) : Int := if ¬SpP s then 10 else if ¬StrikeOk s ns then 12 else 0
def strikeS (s : Sp) (ns : List Int) : Sp := if strikeE s ns = 0 then wo s ns else zeroSp
theorem strike_bad {s : Sp} {ns : List Int} {e : Int} (h : strikeE s ns = e) (he : e ≠ 0) : strikeS s ns = zeroSp := if_neg (by rw [h]; exact he)
theorem strike_ok {s : Sp} {ns : List Int} (h : strikeE s ns = 0) : strikeS s ns = wo s ns := if_pos h
theorem num_pos {s : Sp} (hv : SpP s) {x : Int} (h : x ∈ numsL s) : 1 ≤ x := by
  obtain ⟨r, hr, rfl⟩ := List.mem_map.1 h
  have := (readsP_iff.1 hv.2.2).1 r hr
  omega
/-- The number ahead; nought ahead of all. -/
def lastOf (ns : List Int) (j : Nat) : Int := if j = 0 then 0 else ns.getD (j - 1) 0
def StrikeTo (s : Sp) (ns : List Int) (j : Nat) : Prop := ∀ i, i < j → ns.getD i 0 ∈ numsL s ∧ (0 < i → ns.getD (i - 1) 0 < ns.getD i 0)
theorem StrikeTo.next {s : Sp} {ns : List Int} {j : Nat} (h : StrikeTo s ns j) (h1 : ns.getD j 0 ∈ numsL s) (h2 : 0 < j → ns.getD (j - 1) 0 < ns.getD j 0) : StrikeTo s ns (j + 1) := fun i hi => by
  by_cases e : i = j
  · subst e; exact ⟨h1, h2⟩
  · exact h i (by omega)
theorem StrikeTo.all {s : Sp} {ns : List Int} (h : StrikeTo s ns ns.length) : StrikeOk s ns := fun i hi => h i hi
theorem lastOf_next {s : Sp} {ns : List Int} {j : Nat} (h : ¬(ns.getD j 0 ≤ lastOf ns j ∨ ¬ns.getD j 0 ∈ numsL s)) : lastOf ns j < ns.getD j 0 ∧ ns.getD j 0 ∈ numsL s :=
  ⟨by rcases Int.lt_or_le (lastOf ns j) (ns.getD j 0) with h1 | h1
      · exact h1
      · exact absurd (.inl h1) h, Decidable.byContradiction fun h1 => h (.inr h1)⟩
theorem lastOf_lt {ns : List Int} {j : Nat} {x : Int} (h : lastOf ns j < x) : 0 < j → ns.getD (j - 1) 0 < x := fun h0 => by
  unfold lastOf at h
  rw [if_neg (by omega)] at h
  exact h
theorem lastOf_bad {s : Sp} (hv : SpP s) {ns : List Int} {j : Nat} (hj : j < ns.length) (h : ns.getD j 0 ≤ lastOf ns j ∨ ns.getD j 0 ∉ numsL s) : ¬StrikeOk s ns := fun hok => by
  have h1 := hok j hj
  rcases h with h | h
  · by_cases h0 : j = 0
    · have := num_pos hv h1.1
      unfold lastOf at h
      rw [if_pos h0] at h
      omega
    · have := h1.2 (by omega)
      unfold lastOf at h
      rw [if_neg h0] at h
      omega
  · exact h h1.1
/-! ### a line more -/
def withLine (s : Sp) (y : Ln) : Sp := { s with book := s.book ++ [y] }
def writeE (s : Sp) (y : Ln) : Int := if ¬SpP s then 10 else if s.book.length = 8 then 9 else if ¬SpP (withLine s y) then 13 else 0
def writeS (s : Sp) (y : Ln) : Sp := if writeE s y = 0 then withLine s y else zeroSp
end Go.S

/- The walks of functions. -/
namespace Go.Proofs.YtknflipongbngaaDoor
open Go.X Go.S Go.RowKit
theorem containsInts (l : List Int) (x : Int) (ao : Option Addr) (c : Nat) (hl2 : l.length ≤ 1000000) (w : World) (h : RowsAt w ao 1 (ones l)) :
    CallsR Tryd.prog 93 [.slice ao l.length c, .int .i64 x] w (fun v _ => v = .bool (decide (x ∈ l))) := by
  refine CallsR.of_SX (n := 9) (rs := [.tmp 4]) Tryd.func93 rfl rfl rfl rfl ?_
  show SX _ _ _ ⟨[(0, .slice ao l.length c), (1, .int .i64 x)], [], []⟩
  refine SX.seq ?_
  refine SX.region ?_
  refine SXL.assign rfl ?_
  refine SXL.nil ?_
  refine thenQ.normal ?_
  refine SX.seq ?_
  refine SX.region ?_
  refine SXL.move rfl ?_
  refine SXL.move rfl ?_
  refine SXL.call1 (.int .i64 (idxF (fun k => x = l.getD k 0) l.length)) fn_107 rfl (fun w hI => indexInts l x ao c hl2 _ (h.inv hI)) ?_
  refine SXL.geq rfl rfl ?_
  refine SXL.assign rfl ?_
  refine SXL.nil ?_
  refine thenQ.normal ?_
  refine SX.ret ?_
  refine retQ.one (ResAt.tmp rfl) ?_
  exact congrArg Value.bool (decide_eq_decide.2 (by
    rw [idxF_nonneg]
    constructor
    · rintro ⟨k, hk, e⟩
      rw [e, List.getD_eq_getElem?_getD, List.getElem?_eq_getElem hk]; exact List.getElem_mem hk
    · intro h
      obtain ⟨k, hk, e⟩ := List.getElem_of_mem h
      exact ⟨k, hk, by simp [hk, e]⟩))
set_option maxHeartbeats 2000000 in
theorem sstrike_any (s : Sp) (bo ro : Option Addr) (bc rc : Nat) (ns : List Int) (ao : Option Addr) (nc : Nat) (hn : ns.length ≤ 1000000) (hb : s.book.length ≤ 1000000) (hr : s.reads.length ≤ 1000000) (w : World) (hg : Gl w) (hs : SpAt w s bo ro) (ha0 : RowsAt w ao 1 (ones ns)) :
    CallsR Tryd.prog 40 [.agg ⟨[.int .i64 s.weeks, .int .i64 s.most, .int .i64 s.fall, .int .i64 s.a0, .int .i64 s.a1, .int .i64 s.w0, .int .i64 s.w1, (.slice bo s.book.length bc), (.slice ro s.reads.length rc)]⟩, .slice ao ns.length nc] w (SpE (strikeS s ns) (strikeE s ns)) := by
  refine CallsR.of_SX (n := 38) (rs := [.cell 4 27, .tmp 5]) Tryd.func40 rfl rfl rfl rfl ?_
  show SX _ _ _ ⟨[(0, .agg ⟨[.int .i64 s.weeks, .int .i64 s.most, .int .i64 s.fall, .int .i64 s.a0, .int .i64 s.a1, .int .i64 s.w0, .int .i64 s.w1, (.slice bo s.book.length bc), (.slice ro s.reads.length rc)]⟩), (1, .slice ao ns.length nc)], [], []⟩
  refine SX.seq ?_
  refine SX.region ?_
  refine SXL.box rfl rfl ?_; intro b0
  refine SXL.alloc zp_27 ?_; intro b1
  refine SXL.assign rfl ?_
  refine SXL.nil ?_
  refine thenQ.normal ?_
  refine SX.seq ?_
  refine SX.seq ?_
  refine SX.region ?_
  refine SXL.loadNo 0 sh_27 rfl rfl rfl ?_
  refine SXL.call1 (.int .i64 (if SpP s then 0 else 10)) fn_26 rfl (fun w hI => scheck_any s bo ro bc rc hb hr _ (hg.inv hI) (hs.inv hI)) ?_
  refine SXL.assign rfl ?_
  refine SXL.nil ?_
  refine thenQ.normal ?_
  refine SX.seq ?_
  refine SX.region ?_
  refine SXL.move rfl ?_
  refine SXL.neqI rfl rfl ?_
  refine SXL.nil ?_
  refine thenQ.normal ?_
  refine SX.condP rfl (fun c13 => ?_) (fun c13 => ?_)
  · refine SX.seq ?_
    have hv : ¬SpP s := fun h => c13 (by rw [if_pos h])
    refine SX.region ?_
    refine SXL.buildS pl_27 zp_27 rfl rfl ?_
    refine SXL.move rfl ?_
    refine SXL.store 1 sz_27 rfl rfl rfl rfl rfl rfl ?_
    refine SXL.assign rfl ?_
    refine SXL.nil ?_
    refine thenQ.normal ?_
    refine SX.ret ?_
    refine thenQ.ret ?_
    refine retQ.dead [Sl.nil.ent 61 [], Sl.nil.ent 54 []] rfl ?_
    refine retQ.two (ResAt.cellNo 1 sh_27 rfl rfl rfl) (ResAt.tmp rfl) ?_
    rw [if_neg hv]
    have he : strikeE s ns = 10 := by rw [strikeE, if_pos hv]
    rw [strike_bad he (by omega), he]; exact SpE.zero _
  · refine SX.skip ?_
    refine thenQ.normal ?_
    refine SX.seq ?_
    have hv : SpP s := Decidable.byContradiction fun h => c13 (by rw [if_neg h]; omega)
    have hH := hv.1
    unfold HeadP at hH
    have hnl := length_numsL s
    refine SX.region ?_
    refine SXL.assign rfl ?_
    refine SXL.nil ?_
    refine thenQ.normal ?_
    refine SX.seq ?_
    refine SX.seq ?_
    refine SX.region ?_
    refine SXL.move rfl ?_
    refine SXL.len is_35 rfl ?_
    refine SXL.move rfl ?_
    refine SXL.nil ?_
    refine thenQ.normal ?_
    refine SX.block ?_
    refine SX.loopG (α := Nat) [1, 2, 4, 5, 16, 17] rfl (fun j => [(18, .int .i64 ((j : Int))), (7, .int .i64 ((lastOf ns j)))]) (fun j => []) (fun j => j ≤ ns.length ∧ StrikeTo s ns j) (fun j => ns.length - j) 0 ⟨Nat.zero_le _, fun i h => absurd h (Nat.not_lt_zero _)⟩ ⟨rfl, rfl, trivial⟩ rfl ?_
    rintro j ⟨hjl, hall⟩
    refine SX.seq ?_
    refine SX.region ?_
    refine SXL.lss rfl rfl ?_
    refine SXL.nil ?_
    refine thenQ.normal ?_
    refine SX.seq ?_
    refine SX.condP rfl (fun c2 => ?_) (fun c2 => ?_)
    · refine SX.skip ?_
      refine thenQ.normal ?_
      refine SX.seq ?_
      refine SX.block ?_
      refine SX.seq ?_
      have hj : j < ns.length := by omega
      obtain ⟨b, o, ha, hm⟩ := oneI ha0 hj
      refine SX.region ?_
      refine SXL.indexR el_35 rfl rfl ha (by omega) ?_
      refine SXL.load1 sh_3 rfl (hm _) ?_
      refine SXL.assign rfl ?_
      refine SXL.nil ?_
      refine thenQ.normal ?_
      refine SX.seq ?_
      refine SX.seq ?_
      refine SX.region ?_
      refine SXL.move rfl ?_
      refine SXL.move rfl ?_
      refine SXL.leq rfl rfl ?_
      refine SXL.move rfl ?_
      apply SXL.orG 5
      case hl => exact rfl
      case hd => exact rfl
      case hg => exact rfl
      case ht =>
        intro c31
        refine SXL.pass rfl rfl rfl ?_
        refine SXL.pass rfl rfl rfl ?_
        refine SXL.pass rfl rfl rfl ?_
        refine SXL.pass rfl rfl rfl ?_
        refine SXL.pass rfl rfl rfl ?_
        exact SXL.nil (segQ.mk (.skip rfl (.skip rfl (.skip rfl (.skip rfl (.skip rfl (.skip rfl (EnvSub.refl _))))))) rfl rfl rfl)
      case hf =>
        intro c31
        refine SXL.loadNo 0 sh_27 rfl rfl rfl ?_
        refine SXL.callF (IsI (numsL s)) fn_83 rfl (fun w hI => numbers_any s bo ro bc rc hb hr w (hs.inv hI)) ?_; rintro _ _ ⟨q0, o0, rfl, rfl⟩
        refine SXL.move rfl ?_
        refine SXL.call1 (.bool (decide ((ns.getD j 0) ∈ numsL s))) fn_93 rfl (fun w hI => containsInts (numsL s) (ns.getD j 0) q0.addr q0.cap (by omega) _ (slOnes hI o0 (i := 2) rfl)) ?_
        refine SXL.not rfl ?_
        exact SXL.ownPre (SXL.nil (segQ.mk (.skip rfl (.skip rfl (.skip rfl (.skip rfl (.skip rfl (.skip rfl (EnvSub.refl _))))))) rfl rfl ⟨rfl, rfl⟩)) rfl
      refine SXL.nil ?_
      refine thenQ.normal ?_
      refine SX.condP rfl (fun c31 => ?_) (fun c31 => ?_)
      · refine SX.seq ?_
        refine SX.region ?_
        refine SXL.buildS pl_27 zp_27 rfl rfl ?_
        refine SXL.store 1 sz_27 rfl rfl rfl rfl rfl rfl ?_
        refine SXL.assign rfl ?_
        refine SXL.nil ?_
        refine thenQ.normal ?_
        refine SX.ret ?_
        refine thenQ.ret ?_
        refine blockQ.ret ?_
        refine thenQ.ret ?_
        refine thenQ.ret ?_
        refine blockQ.ret ?_
        refine thenQ.ret ?_
        refine retQ.dead [Sl.nil.ent 61 [], Sl.nil.ent 54 []] rfl ?_
        refine retQ.two (ResAt.cellNo 1 sh_27 rfl rfl rfl) (ResAt.tmp rfl) ?_
        have he : strikeE s ns = 12 := by rw [strikeE, if_neg (not_not_intro hv), if_pos (lastOf_bad hv hj c31)]
        rw [strike_bad he (by omega), he]; exact SpE.zero _
      · refine SX.skip ?_
        refine thenQ.normal ?_
        refine SX.region ?_
        refine SXL.move rfl ?_
        refine SXL.assign rfl ?_
        refine SXL.nil ?_
        refine blockQ.normal ?_
        refine thenQ.normal ?_
        refine SX.region ?_
        refine SXL.add rfl rfl (by omega) ?_
        refine SXL.move rfl ?_
        refine SXL.nil ?_
        refine thenQ.normal ?_
        refine ⟨j + 1, Meets.mk _ ⟨rfl, congrArg (fun z => some (Value.int .i64 z)) (show ns.getD j 0 = lastOf ns (j + 1) from by rw [lastOf, if_neg (by omega), Nat.add_sub_cancel]), trivial⟩ ⟨rfl, rfl, rfl, rfl, rfl, rfl, trivial⟩ rfl, ⟨by omega, hall.next (lastOf_next c31).2 (lastOf_lt (lastOf_next c31).1)⟩, (by omega)⟩
    · refine SX.exit ?_
      refine thenQ.exit ?_
      refine thenQ.exit ?_
      refine blockQ.exit ?_
      refine thenQ.normal ?_
      refine SX.seq ?_
      obtain rfl : j = ns.length := by omega
      refine SX.region ?_
      refine SXL.loadNo 0 sh_27 rfl rfl rfl ?_
      refine SXL.move rfl ?_
      refine SXL.callF (SpR (wo s ns)) fn_84 rfl (fun w hI => swithout_any s bo ro bc rc ns ao nc hn hb hr (nums_nodup hv.2.2) w (hs.inv hI) (ha0.inv hI)) ?_; rintro _ _ ⟨r1, r2, o1, o2, rfl, rfl⟩
      refine SXL.store 1 sz_27 rfl rfl rfl rfl rfl rfl ?_
      refine SXL.assign rfl ?_
      refine SXL.nil ?_
      refine thenQ.normal ?_
      refine SX.ret ?_
      refine retQ.sel [2, 3] rfl rfl ?_
      refine retQ.two (ResAt.cellNo 1 sh_27 rfl rfl rfl) (ResAt.tmp rfl) ?_
      have he : strikeE s ns = 0 := by rw [strikeE, if_neg (not_not_intro hv), if_neg (not_not_intro hall.all)]
      rw [strike_ok he, he]; exact ⟨r1, r2, o1, o2, rfl, rfl⟩
end Go.Proofs.YtknflipongbngaaDoor

/- The calculus' rules: '==' on bools. Nothing of the program stands here. -/
namespace Go.X
open Go Go.RowKit
def isBoolP (P : Program) (t : TypeId) : Bool := match P.underlying t with | some .bool => true | _ => false
theorem run_equal_bool {P : Program} {T : TypeId} {w : World} (h : isBoolP P T = true) (a b : Bool) : (Op.equal T (.bool a) (.bool b)).run P w = .ok (a == b) w := by
  unfold isBoolP at h
  split at h
  · rename_i hu
    show (Op.equalIn (9999 + 1) T (.bool a) (.bool b)).run P w = _
    unfold Op.equalIn
    simp [run_underlying hu, Result.andThen]
  · cases h
section
variable {C : Cx} {Q : Post} {env : Env} {own : Own} {D : List Deferred} {ops : Array Oper} {rest : List Oper}
variable {d : Nat} {ty : TypeId} {pos : String} {aft : Array Edge} {g : Option (Nat × Bool)} {x y : Operand} {T T' : TypeId} {p q : Prop} [Decidable p] [Decidable q]
theorem SXL.neqB (hT : isBoolP C.P T = true) (hx : ev env x = some (.bool (decide p))) (hy : ev env y = some (.bool (decide q)))
    (h : SXL C ops rest Q ⟨(d, .bool (decide (¬(p ↔ q)))) :: env, own, D⟩) (hd : Nat.blt d C.n = true := by rfl) (hw : Wanted ops g env = some true := by rfl) :
    SXL C ops ({ dst := some d, op := .binOp .neq T x y T', type := ty, pos, after := aft, guard := g } :: rest) Q ⟨env, own, D⟩ :=
  SXL.bin hx hy (r := .bool (decide (¬(p ↔ q)))) (fun w => by by_cases hp : p <;> by_cases hq : q <;> simp [eqGuard, binOp, hp, hq, run_equal_bool hT, Result.andThen]) hd hw h
/-! ### where both sides are known to be the same -/
theorem SXL.eqlT {k : IntKind} {A : Int} (hx : ev env x = some (.int k A)) (hy : ev env y = some (.int k A))
    (h : SXL C ops rest Q ⟨(d, .bool true) :: env, own, D⟩) (hd : Nat.blt d C.n = true := by rfl) (hw : Wanted ops g env = some true := by rfl) :
    SXL C ops ({ dst := some d, op := .binOp .eql T x y T', type := ty, pos, after := aft, guard := g } :: rest) Q ⟨env, own, D⟩ :=
  SXL.eqlI hx hy (by rw [decide_eq_true (p := A = A) rfl]; exact h) hd hw
theorem SXL.neqF {k : IntKind} {A : Int} (hx : ev env x = some (.int k A)) (hy : ev env y = some (.int k A))
    (h : SXL C ops rest Q ⟨(d, .bool false) :: env, own, D⟩) (hd : Nat.blt d C.n = true := by rfl) (hw : Wanted ops g env = some true := by rfl) :
    SXL C ops ({ dst := some d, op := .binOp .neq T x y T', type := ty, pos, after := aft, guard := g } :: rest) Q ⟨env, own, D⟩ :=
  SXL.neqI hx hy (by rw [decide_eq_false (p := A ≠ A) (fun h => h rfl)]; exact h) hd hw
theorem SXL.eqlVT {xs : List Int} {n : Nat} (he : eqP C.P 5 T = some n) (hg : C.P.eqGuardType C.P.depth T = false) (hs : shapeT C.P T = some (some n)) (hl : xs.length = n) (hx : ev env x = some (.agg ⟨ints xs⟩)) (hy : ev env y = some (.agg ⟨ints xs⟩))
    (h : SXL C ops rest Q ⟨(d, .bool true) :: env, own, D⟩) (hd : Nat.blt d C.n = true := by rfl) (hw : Wanted ops g env = some true := by rfl) :
    SXL C ops ({ dst := some d, op := .binOp .eql T x y T', type := ty, pos, after := aft, guard := g } :: rest) Q ⟨env, own, D⟩ :=
  SXL.eqlV (p := xs = xs) hx hy (run_eql_ints he hg hs hl hl) (by rw [decide_eq_true (p := xs = xs) rfl]; exact h) hd hw
theorem SXL.neqVF {xs : List Int} {n : Nat} (he : eqP C.P 5 T = some n) (hg : C.P.eqGuardType C.P.depth T = false) (hs : shapeT C.P T = some (some n)) (hl : xs.length = n) (hx : ev env x = some (.agg ⟨ints xs⟩)) (hy : ev env y = some (.agg ⟨ints xs⟩))
    (h : SXL C ops rest Q ⟨(d, .bool false) :: env, own, D⟩) (hd : Nat.blt d C.n = true := by rfl) (hw : Wanted ops g env = some true := by rfl) :
    SXL C ops ({ dst := some d, op := .binOp .neq T x y T', type := ty, pos, after := aft, guard := g } :: rest) Q ⟨env, own, D⟩ :=
  SXL.neqV (p := xs ≠ xs) hx hy (run_neq_ints he hg hs hl hl) (by rw [decide_eq_false (p := xs ≠ xs) (fun h => h rfl)]; exact h) hd hw
theorem SXL.notF (hx : ev env x = some (.bool true))
    (h : SXL C ops rest Q ⟨(d, .bool false) :: env, own, D⟩) (hd : Nat.blt d C.n = true := by rfl) (hw : Wanted ops g env = some true := by rfl) :
    SXL C ops ({ dst := some d, op := .unOp .not T x, type := ty, pos, after := aft, guard := g } :: rest) Q ⟨env, own, D⟩ :=
  SXL.not (p := True) hx (by rw [decide_eq_false (p := ¬True) (fun h => h trivial)]; exact h) hd hw
end
end Go.X

/- How long lists are that are handed back. Nothing of Go stands here. -/
namespace Go.S
end Go.S

/- The examples: what is told of them. -/
namespace Go.Proofs.YtknflipongbngaaDoor
open Go.X Go.S Go.RowKit
/-- The spring of the examples, with readings more. -/
def fntM (more : List Rd) : Sp := ⟨4, 40, 8, 60, 70, 3, 5, [⟨0, 3, 2, 5, 12⟩, ⟨4, 9, 2, 10, 25⟩], ⟨1, 0, 10, 18, 20⟩ :: more⟩
def fnt : Sp := fntM []
def oddR : Rd := ⟨3, 1, 10, 9, 10⟩
def oddS : Sp := fntM [oddR]
theorem rowsRdSrc {w : World} {l : List Rd} {ao : Option Addr} (h : RowsAt w ao 5 (l.map Rd.cells)) (own : X.Own) : Src w own ao l.length (rdC l) := by
  have := h.src (by omega) (by intro q hq; obtain ⟨x, _, rfl⟩ := List.mem_map.1 hq; rfl) own
  rwa [List.length_map] at this
theorem rdC_len (l : List Rd) : (rdC l).length = l.length * 5 := by
  rw [rdC, length_flatten (k := 5) (by intro q hq; obtain ⟨x, _, rfl⟩ := List.mem_map.1 hq; rfl), List.length_map]
theorem rdC_one (l : List Rd) : (rdC l).all isOne = true := by
  rw [List.all_eq_true]; intro v hv
  obtain ⟨q, hq, hv⟩ := List.mem_flatten.1 hv
  obtain ⟨x, _, rfl⟩ := List.mem_map.1 hq
  simp [Rd.cells] at hv
  rcases hv with rfl | rfl | rfl | rfl | rfl <;> rfl
theorem mkSpan_any (a b : Int) (w : World) :
    CallsR Tryd.prog 63 [.int .i64 a, .int .i64 b] w (fun v _ => v = .agg ⟨[.int .i64 a, .int .i64 b]⟩) := by
  refine CallsR.of_SX (n := 8) (rs := [.cell 4 23]) Tryd.func63 rfl rfl rfl rfl ?_
  show SX _ _ _ ⟨[(0, .int .i64 a), (1, .int .i64 b)], [], []⟩
  refine SX.seq ?_
  refine SX.region ?_
  refine SXL.alloc zp_23 ?_; intro b0
  refine SXL.nil ?_
  refine thenQ.normal ?_
  refine SX.seq ?_
  refine SX.region ?_
  refine SXL.move rfl ?_
  refine SXL.move rfl ?_
  refine SXL.buildS pl_23 zp_23 rfl rfl ?_
  refine SXL.store 0 sz_23 rfl rfl rfl rfl rfl rfl ?_
  refine SXL.nil ?_
  refine thenQ.normal ?_
  refine SX.ret ?_
  refine retQ.one (ResAt.cellNo 0 sh_23 rfl rfl rfl) ?_
  rfl
theorem mkRd_any (x : Rd) (w : World) :
    CallsR Tryd.prog 69 [.int .i64 x.num, .int .i64 x.wk, .int .i64 x.bu, .int .i64 x.s0, .int .i64 x.s1] w (fun v _ => v = .agg ⟨x.cells⟩) := by
  refine CallsR.of_SX (n := 18) (rs := [.cell 10 54]) Tryd.func69 rfl rfl rfl rfl ?_
  show SX _ _ _ ⟨[(0, .int .i64 x.num), (1, .int .i64 x.wk), (2, .int .i64 x.bu), (3, .int .i64 x.s0), (4, .int .i64 x.s1)], [], []⟩
  refine SX.seq ?_
  refine SX.region ?_
  refine SXL.alloc zp_54 ?_; intro b0
  refine SXL.nil ?_
  refine thenQ.normal ?_
  refine SX.seq ?_
  refine SX.region ?_
  refine SXL.move rfl ?_
  refine SXL.move rfl ?_
  refine SXL.move rfl ?_
  refine SXL.move rfl ?_
  refine SXL.move rfl ?_
  refine SXL.call1 (.agg ⟨[.int .i64 x.s0, .int .i64 x.s1]⟩) fn_63 rfl (fun w hI => mkSpan_any _ _ _) ?_
  refine SXL.buildS pl_54 zp_54 rfl rfl ?_
  refine SXL.store 0 sz_54 rfl rfl rfl rfl rfl rfl ?_
  refine SXL.nil ?_
  refine thenQ.normal ?_
  refine SX.ret ?_
  refine retQ.one (ResAt.cellNo 0 sh_54 rfl rfl rfl) ?_
  rfl
set_option maxHeartbeats 1000000 in
theorem fountain_any (more : List Rd) (mo : Option Addr) (mc : Nat) (hm : more.length ≤ 1000) (w : World) (h : RowsAt w mo 5 (more.map Rd.cells)) :
    CallsR Tryd.prog 67 [.slice mo more.length mc] w (SpR (fntM more)) := by
  refine CallsR.of_SX (n := 17) (rs := [.cell 2 27]) Tryd.func67 rfl rfl rfl rfl ?_
  show SX _ _ _ ⟨[(0, .slice mo more.length mc)], [], []⟩
  refine SX.seq ?_
  refine SX.region ?_
  refine SXL.alloc zp_27 ?_; intro b0
  refine SXL.nil ?_
  refine thenQ.normal ?_
  refine SX.seq ?_
  refine SX.region ?_
  refine SXL.call1 (.agg ⟨[.int .i64 60, .int .i64 70]⟩) fn_63 rfl (fun w hI => mkSpan_any _ _ _) ?_
  refine SXL.call1 (.agg ⟨[.int .i64 3, .int .i64 5]⟩) fn_63 rfl (fun w hI => mkSpan_any _ _ _) ?_
  refine SXL.call1 (.agg ⟨[.int .i64 0, .int .i64 3]⟩) fn_63 rfl (fun w hI => mkSpan_any _ _ _) ?_
  refine SXL.call1 (.agg ⟨[.int .i64 5, .int .i64 12]⟩) fn_63 rfl (fun w hI => mkSpan_any _ _ _) ?_
  refine SXL.buildS pl_61 zp_61 rfl rfl ?_
  refine SXL.call1 (.agg ⟨[.int .i64 4, .int .i64 9]⟩) fn_63 rfl (fun w hI => mkSpan_any _ _ _) ?_
  refine SXL.call1 (.agg ⟨[.int .i64 10, .int .i64 25]⟩) fn_63 rfl (fun w hI => mkSpan_any _ _ _) ?_
  refine SXL.buildS pl_61 zp_61 rfl rfl ?_
  refine SXL.buildSlice et_24 zp_61 rfl rfl rfl rfl ?_; intro b1
  refine SXL.call1 (.agg ⟨(Rd.mk 1 0 10 18 20).cells⟩) fn_69 rfl (fun w hI => mkRd_any ⟨1, 0, 10, 18, 20⟩ _) ?_
  refine SXL.buildSlice et_25 zp_54 rfl rfl rfl rfl ?_; intro b2
  refine SXL.move rfl ?_
  refine SXL.append (r := ⟨some b2, 1, []⟩) (cells := (Rd.mk 1 0 10 18 20).cells) 2 ap_25 rfl rfl ⟨rfl, Nat.le_refl _, (by simp only [maxLen]; omega), (fun h => by cases h), (fun _ _ => rfl)⟩ rfl (rowsRdSrc h _) (rdC_len _) (rdC_one _) ⟨by simp only [maxLen]; omega, by omega⟩ ?_; intro r_15 o_15; rw [show 1 + more.length = (fntM more).reads.length from by simp [fntM]; omega] at o_15 ⊢
  refine SXL.buildS pl_27 zp_27 rfl rfl ?_
  refine SXL.store 0 sz_27 rfl rfl rfl rfl rfl rfl ?_
  refine SXL.nil ?_
  refine thenQ.normal ?_
  refine SX.ret ?_
  refine retQ.sel [1, 2] rfl rfl ?_
  refine retQ.one (ResAt.cellNo 0 sh_27 rfl rfl rfl) ?_
  exact ⟨⟨some b1, 2, []⟩, r_15, ⟨rfl, Nat.le_refl _, (by simp only [maxLen]; omega), (fun h => by cases h), (fun _ _ => rfl)⟩, o_15, rfl, rfl⟩
theorem odd_any (w : World) :
    CallsR Tryd.prog 68 [] w (SpR oddS) := by
  refine CallsR.of_SX (n := 4) (rs := [.cell 0 27]) Tryd.func68 rfl rfl rfl rfl ?_
  show SX _ _ _ ⟨[], [], []⟩
  refine SX.seq ?_
  refine SX.region ?_
  refine SXL.alloc zp_27 ?_; intro b0
  refine SXL.nil ?_
  refine thenQ.normal ?_
  refine SX.seq ?_
  refine SX.region ?_
  refine SXL.call1 (.agg ⟨oddR.cells⟩) fn_69 rfl (fun w hI => mkRd_any oddR _) ?_
  refine SXL.buildSlice et_25 zp_54 rfl rfl rfl rfl ?_; intro b1
  refine SXL.callF (SpR oddS) fn_67 rfl (fun w hI => fountain_any [oddR] (some ⟨b1, 0, none⟩) 1 (by simp) w (RowsAt.ofOwn hI (i := 1) rfl (fun i r hr j u hj => by
        have hi : i = 0 := by have := (List.getElem?_eq_some_iff.1 hr).1; simpa using this
        subst hi
        simp at hr; subst hr
        rw [Nat.zero_mul, Nat.zero_add]; exact hj))) ?_; rintro _ _ ⟨r1, r2, o1, o2, rfl, rfl⟩
  refine SXL.store 0 sz_27 rfl rfl rfl rfl rfl rfl ?_
  refine SXL.nil ?_
  refine thenQ.normal ?_
  refine SX.ret ?_
  refine retQ.sel [2, 3] rfl rfl ?_
  refine retQ.one (ResAt.cellNo 0 sh_27 rfl rfl rfl) ?_
  exact ⟨r1, r2, o1, o2, rfl, rfl⟩
theorem is_any (l m : List Int) (e : Int) (lo mo : Option Addr) (lc mc : Nat) (hl : l.length ≤ 1000000) (w : World) (h1 : RowsAt w lo 1 (ones l)) (h2 : RowsAt w mo 1 (ones m)) :
    CallsR Tryd.prog 108 [.slice lo l.length lc, .int .i64 e, .slice mo m.length mc] w (fun v _ => v = .bool (decide (e = 0 ∧ l = m))) := by
  refine CallsR.of_SX (n := 14) (rs := [.tmp 6]) Tryd.func108 rfl rfl rfl rfl ?_
  show SX _ _ _ ⟨[(0, .slice lo l.length lc), (1, .int .i64 e), (2, .slice mo m.length mc)], [], []⟩
  refine SX.seq ?_
  refine SX.region ?_
  refine SXL.assign rfl ?_
  refine SXL.nil ?_
  refine thenQ.normal ?_
  refine SX.seq ?_
  refine SX.region ?_
  refine SXL.move rfl ?_
  refine SXL.eqlI rfl rfl ?_
  refine SXL.move rfl ?_
  apply SXL.andG 3
  case hl => exact rfl
  case hd => exact rfl
  case hg => exact rfl
  case ht =>
    intro g1
    refine SXL.move rfl ?_
    refine SXL.move rfl ?_
    refine SXL.call1 (.bool (decide (l = m))) fn_28 rfl (fun w hI => sameInts_any l m lo mo lc mc hl _ (h1.inv hI) (h2.inv hI)) ?_
    exact SXL.nil (segQ.mk (.skip rfl (.skip rfl (.skip rfl (.skip rfl (EnvSub.refl _))))) rfl rfl ⟨rfl, rfl⟩)
  case hf =>
    intro g1
    refine SXL.pass rfl rfl rfl ?_
    refine SXL.pass rfl rfl rfl ?_
    refine SXL.pass rfl rfl rfl ?_
    exact SXL.nil (segQ.mk (.skip rfl (.skip rfl (.skip rfl (.skip rfl (EnvSub.refl _))))) rfl rfl rfl)
  refine SXL.assign rfl ?_
  refine SXL.nil ?_
  refine thenQ.normal ?_
  refine SX.ret ?_
  refine retQ.one (ResAt.tmp rfl) ?_
  first | rfl | assumption
theorem ready_any (s : Sp) (bo ro : Option Addr) (bc rc : Nat) (w : World) (hs : SpAt w s bo ro) :
    CallsR Tryd.prog 55 [.agg ⟨[.int .i64 s.weeks, .int .i64 s.most, .int .i64 s.fall, .int .i64 s.a0, .int .i64 s.a1, .int .i64 s.w0, .int .i64 s.w1, (.slice bo s.book.length bc), (.slice ro s.reads.length rc)]⟩] w (fun v _ => v = .bool (decide (¬((30 : Int) < (s.book.length : Int) ∨ (30 : Int) < (s.reads.length : Int)) ∧ SpP s))) := by
  refine CallsR.of_SX (n := 10) (rs := [.tmp 2]) Tryd.func55 rfl rfl rfl rfl ?_
  show SX _ _ _ ⟨[(0, .agg ⟨[.int .i64 s.weeks, .int .i64 s.most, .int .i64 s.fall, .int .i64 s.a0, .int .i64 s.a1, .int .i64 s.w0, .int .i64 s.w1, (.slice bo s.book.length bc), (.slice ro s.reads.length rc)]⟩)], [], []⟩
  refine SX.seq ?_
  refine SX.region ?_
  refine SXL.box rfl rfl ?_; intro b0
  refine SXL.assign rfl ?_
  refine SXL.nil ?_
  refine thenQ.normal ?_
  refine SX.seq ?_
  refine SX.region ?_
  refine SXL.loadNo 0 sh_27 rfl rfl rfl ?_
  refine SXL.call1 (.bool (decide ((30 : Int) < (s.book.length : Int) ∨ (30 : Int) < (s.reads.length : Int)))) fn_16 rfl (fun w hI => great_any s bo ro bc rc _) ?_
  refine SXL.not rfl ?_
  refine SXL.move rfl ?_
  apply SXL.andG 2
  case hl => exact rfl
  case hd => exact rfl
  case hg => exact rfl
  case ht =>
    intro g1
    refine SXL.loadNo 0 sh_27 rfl rfl rfl ?_
    refine SXL.call1 (.bool (decide (SpP s))) fn_74 rfl (fun w hI => spring_any s bo ro bc rc _ (hs.inv hI)) ?_
    exact SXL.nil (segQ.mk (.skip rfl (.skip rfl (.skip rfl (EnvSub.refl _)))) rfl rfl ⟨rfl, rfl⟩)
  case hf =>
    intro g1
    refine SXL.pass rfl rfl rfl ?_
    refine SXL.pass rfl rfl rfl ?_
    exact SXL.nil (segQ.mk (.skip rfl (.skip rfl (.skip rfl (EnvSub.refl _)))) rfl rfl rfl)
  refine SXL.assign rfl ?_
  refine SXL.nil ?_
  refine thenQ.normal ?_
  refine SX.ret ?_
  refine retQ.one (ResAt.tmp rfl) ?_
  first | rfl | assumption
theorem fx_valid : SpP fnt := by decide +kernel
theorem fx_read : readLo fnt ⟨1, 0, 10, 18, 20⟩ = 26 ∧ readHi fnt ⟨1, 0, 10, 18, 20⟩ = 33 ∧ readE fnt ⟨1, 0, 10, 18, 20⟩ = 0 := by decide +kernel
theorem fx_can : SpP fnt ∧ TrueP fnt := by decide +kernel
theorem fx_told : toldL fnt 0 = [3, 4, 5] ∧ toldE fnt 0 = 0 := by decide +kernel
theorem fx_gives : givesLo fnt 1 = 18 ∧ givesHi fnt 1 = 33 ∧ toldE fnt 1 = 0 := by decide +kernel
theorem fx_known : knownV fnt 2 10 = 2 ∧ toldE fnt 2 = 0 := by decide +kernel
theorem fx_fails : wkV fnt (loI fnt 20) = 1 ∧ wkE fnt (loI fnt 20) = 0 := by decide +kernel
theorem fx_surely : wkV fnt (hiI fnt 26) = 2 ∧ wkE fnt (hiI fnt 26) = 0 := by decide +kernel
theorem fx_poor : bestR fnt (poorI fnt) = 3 ∧ bestL fnt 0 (poorI fnt) = [26, 18, 10, 2] := by decide +kernel
theorem fx_rich : bestR fnt (richI fnt) = 4 ∧ bestL fnt 10 (richI fnt) = [33, 33, 25, 25] := by decide +kernel
theorem fx_fill : fillLo fnt 3 1 = 144 ∧ fillHi fnt 3 1 = 1800 ∧ fillE fnt 3 1 = 0 := by decide +kernel
theorem fx_look : lookW fnt = 2 ∧ lookV fnt = 23 := by decide +kernel
theorem fx_rests : restsL fnt 0 = [1] := by decide +kernel
theorem fx_wrong : wrongL oddS = [3] ∧ wrongE oddS = 0 := by decide +kernel
theorem fx_strike : strikeS oddS [3] = fnt ∧ strikeE oddS [3] = 0 := by decide +kernel
end Go.Proofs.YtknflipongbngaaDoor

/- The examples: the walk. -/
namespace Go.Proofs.YtknflipongbngaaDoor
open Go.X Go.S Go.RowKit
set_option maxHeartbeats 8000000 in
set_option maxRecDepth 100000 in
theorem alive_any (w : World) (hg : Gl w) :
    CallsR Tryd.prog 54 [] w (fun v _ => v = .bool true) := by
  refine CallsR.of_SX (n := 219) (rs := [.tmp 0]) Tryd.func54 rfl rfl rfl rfl ?_
  show SX _ _ _ ⟨[], [], []⟩
  refine SX.seq ?_
  refine SX.region ?_
  refine SXL.assign rfl ?_
  refine SXL.nil ?_
  refine thenQ.normal ?_
  refine SX.cutW (α := Nat) [0] rfl (fun b1 => [(2, .int .i64 0), (1, .pointer (some ⟨b1, 0, none⟩))]) (fun b1 => [(b1, .cells ⟨[.int .i64 26, .int .i64 33]⟩ 23 (0, 0))]) (fun b1 => []) (fun b1 => True) ?_ ?_
  · refine SX.region ?_
    refine SXL.callF (SpR fnt) fn_67 rfl (fun w hI => fountain_any [] none 0 (by simp) w (.nil _ _ _)) ?_; rintro _ _ ⟨ra28, rb28, oa28, ob28, rfl, rfl⟩
    refine SXL.call1 (.agg ⟨(Rd.mk 1 0 10 18 20).cells⟩) fn_69 rfl (fun w hI => mkRd_any ⟨1, 0, 10, 18, 20⟩ _) ?_
    refine SXL.call1 (.tuple ⟨[.agg ⟨[.int .i64 26, .int .i64 33]⟩, .int .i64 0]⟩) fn_30 rfl (fun w hI => (sread_any fnt ra28.addr rb28.addr ra28.cap rb28.cap ⟨1, 0, 10, 18, 20⟩ (by decide) (by decide) _ (hg.inv hI) (spAtOwn hI oa28 ob28 (i := 0) (j := 1) rfl rfl)).eqv (by rw [fx_read.1, fx_read.2.1, fx_read.2.2])) ?_
    refine SXL.move rfl ?_
    refine SXL.extract rfl rfl ?_
    refine SXL.extract rfl rfl ?_
    refine SXL.alloc zp_23 ?_; intro b2
    refine SXL.store 2 sz_23 rfl rfl rfl rfl rfl rfl ?_
    refine SXL.assign rfl ?_
    refine SXL.nil ?_
    refine thenQ.normal ?_
    refine ⟨(_), MeetsW.mkS [2] ⟨rfl, rfl, trivial⟩ ⟨rfl, trivial⟩ rfl, trivial⟩
  rintro b1 _
  refine SX.cutW (α := Nat) [0, 2] rfl (fun b1 => [(3, .bool true), (4, .int .i64 0), (1, .pointer (some ⟨b1, 0, none⟩))]) (fun b1 => [(b1, .cells ⟨[.int .i64 26, .int .i64 33]⟩ 23 (0, 0))]) (fun b1 => []) (fun b1 => True) ?_ ?_
  · refine SX.region ?_
    refine SXL.callF (SpR fnt) fn_67 rfl (fun w hI => fountain_any [] none 0 (by simp) w (.nil _ _ _)) ?_; rintro _ _ ⟨ra34, rb34, oa34, ob34, rfl, rfl⟩
    refine SXL.call1 (.tuple ⟨[.bool true, .int .i64 0]⟩) fn_18 rfl (fun w hI => (scan_any fnt ra34.addr rb34.addr ra34.cap rb34.cap (by decide) (by decide) _ (hg.inv hI) (spAtOwn hI oa34 ob34 (i := 1) (j := 2) rfl rfl)).eqv (by rw [decide_eq_true fx_can, if_pos fx_valid])) ?_
    refine SXL.move rfl ?_
    refine SXL.extract rfl rfl ?_
    refine SXL.extract rfl rfl ?_
    refine SXL.assign rfl ?_
    refine SXL.assign rfl ?_
    refine SXL.nil ?_
    refine thenQ.normal ?_
    refine ⟨(_), MeetsW.mkS [0] ⟨rfl, rfl, rfl, trivial⟩ ⟨rfl, rfl, trivial⟩ rfl, trivial⟩
  rintro b1 _
  refine SX.cutW (α := Nat × Sl) [0, 2, 3, 4] rfl (fun ⟨b1, q40⟩ => [(6, .int .i64 0), (1, .pointer (some ⟨b1, 0, none⟩)), (5, q40.val 3)]) (fun ⟨b1, q40⟩ => [(b1, .cells ⟨[.int .i64 26, .int .i64 33]⟩ 23 (0, 0)), q40.ent 3 (ints [3, 4, 5])]) (fun ⟨b1, q40⟩ => []) (fun ⟨b1, q40⟩ => q40.Ok 3 1 (ints [3, 4, 5])) ?_ ?_
  · refine SX.region ?_
    refine SXL.callF (SpR fnt) fn_67 rfl (fun w hI => fountain_any [] none 0 (by simp) w (.nil _ _ _)) ?_; rintro _ _ ⟨ra39, rb39, oa39, ob39, rfl, rfl⟩
    refine SXL.callF (IsR2 [3, 4, 5] 0) fn_20 rfl (fun w hI => (srains_any fnt ra39.addr rb39.addr ra39.cap rb39.cap (by decide) (by decide) w (hg.inv hI) (spAtOwn hI oa39 ob39 (i := 1) (j := 2) rfl rfl)).mono (fun v own h => by rw [fx_told.1, fx_told.2] at h; exact h)) ?_; rintro _ _ ⟨q40, u40, rfl, rfl⟩
    refine SXL.move rfl ?_
    refine SXL.extract rfl rfl ?_
    refine SXL.extract rfl rfl ?_
    refine SXL.assign rfl ?_
    refine SXL.assign rfl ?_
    refine SXL.nil ?_
    refine thenQ.normal ?_
    refine ⟨(_, _), MeetsW.mkS [0, 3] ⟨rfl, rfl, rfl, trivial⟩ ⟨rfl, rfl, rfl, rfl, trivial⟩ rfl, u40⟩
  rintro ⟨b1, q40⟩ u40
  refine SX.cutW (α := Nat × Nat × Sl) [0, 2, 3, 4, 6] rfl (fun ⟨b1, b7, q40⟩ => [(8, .int .i64 0), (1, .pointer (some ⟨b1, 0, none⟩)), (7, .pointer (some ⟨b7, 0, none⟩)), (5, q40.val 3)]) (fun ⟨b1, b7, q40⟩ => [(b1, .cells ⟨[.int .i64 26, .int .i64 33]⟩ 23 (0, 0)), (b7, .cells ⟨[.int .i64 18, .int .i64 33]⟩ 23 (0, 0)), q40.ent 3 (ints [3, 4, 5])]) (fun ⟨b1, b7, q40⟩ => []) (fun ⟨b1, b7, q40⟩ => q40.Ok 3 1 (ints [3, 4, 5])) ?_ ?_
  · refine SX.region ?_
    refine SXL.callF (SpR fnt) fn_67 rfl (fun w hI => fountain_any [] none 0 (by simp) w (.nil _ _ _)) ?_; rintro _ _ ⟨ra44, rb44, oa44, ob44, rfl, rfl⟩
    refine SXL.call1 (.tuple ⟨[.agg ⟨[.int .i64 18, .int .i64 33]⟩, .int .i64 0]⟩) fn_22 rfl (fun w hI => (sgives_any fnt ra44.addr rb44.addr ra44.cap rb44.cap 1 (by decide) (by decide) _ (hg.inv hI) (spAtOwn hI oa44 ob44 (i := 2) (j := 3) rfl rfl)).eqv (by rw [fx_gives.1, fx_gives.2.1, fx_gives.2.2])) ?_
    refine SXL.move rfl ?_
    refine SXL.extract rfl rfl ?_
    refine SXL.extract rfl rfl ?_
    refine SXL.alloc zp_23 ?_; intro b4
    refine SXL.store 4 sz_23 rfl rfl rfl rfl rfl rfl ?_
    refine SXL.assign rfl ?_
    refine SXL.nil ?_
    refine thenQ.normal ?_
    refine ⟨(_, _, _), MeetsW.mkS [0, 4, 1] ⟨rfl, rfl, rfl, rfl, trivial⟩ ⟨rfl, rfl, rfl, rfl, rfl, trivial⟩ rfl, u40⟩
  rintro ⟨b1, b7, q40⟩ u40
  refine SX.cutW (α := Nat × Nat × Sl) [0, 2, 3, 4, 6, 8] rfl (fun ⟨b1, b7, q40⟩ => [(9, .int .u8 2), (10, .int .i64 0), (1, .pointer (some ⟨b1, 0, none⟩)), (7, .pointer (some ⟨b7, 0, none⟩)), (5, q40.val 3)]) (fun ⟨b1, b7, q40⟩ => [(b1, .cells ⟨[.int .i64 26, .int .i64 33]⟩ 23 (0, 0)), (b7, .cells ⟨[.int .i64 18, .int .i64 33]⟩ 23 (0, 0)), q40.ent 3 (ints [3, 4, 5])]) (fun ⟨b1, b7, q40⟩ => []) (fun ⟨b1, b7, q40⟩ => q40.Ok 3 1 (ints [3, 4, 5])) ?_ ?_
  · refine SX.region ?_
    refine SXL.callF (SpR fnt) fn_67 rfl (fun w hI => fountain_any [] none 0 (by simp) w (.nil _ _ _)) ?_; rintro _ _ ⟨ra49, rb49, oa49, ob49, rfl, rfl⟩
    refine SXL.call1 (.tuple ⟨[.int .u8 2, .int .i64 0]⟩) fn_24 rfl (fun w hI => (sknown_any fnt ra49.addr rb49.addr ra49.cap rb49.cap 2 10 (by decide) (by decide) _ (hg.inv hI) (spAtOwn hI oa49 ob49 (i := 3) (j := 4) rfl rfl)).eqv (by rw [fx_known.1, fx_known.2])) ?_
    refine SXL.move rfl ?_
    refine SXL.extract rfl rfl ?_
    refine SXL.extract rfl rfl ?_
    refine SXL.assign rfl ?_
    refine SXL.assign rfl ?_
    refine SXL.nil ?_
    refine thenQ.normal ?_
    refine ⟨(_, _, _), MeetsW.mkS [0, 1, 2] ⟨rfl, rfl, rfl, rfl, rfl, trivial⟩ ⟨rfl, rfl, rfl, rfl, rfl, rfl, trivial⟩ rfl, u40⟩
  rintro ⟨b1, b7, q40⟩ u40
  refine SX.cutW (α := Nat × Nat × Sl) [0, 2, 3, 4, 6, 8, 9, 10] rfl (fun ⟨b1, b7, q40⟩ => [(11, .int .i64 1), (12, .int .i64 0), (1, .pointer (some ⟨b1, 0, none⟩)), (7, .pointer (some ⟨b7, 0, none⟩)), (5, q40.val 3)]) (fun ⟨b1, b7, q40⟩ => [(b1, .cells ⟨[.int .i64 26, .int .i64 33]⟩ 23 (0, 0)), (b7, .cells ⟨[.int .i64 18, .int .i64 33]⟩ 23 (0, 0)), q40.ent 3 (ints [3, 4, 5])]) (fun ⟨b1, b7, q40⟩ => []) (fun ⟨b1, b7, q40⟩ => q40.Ok 3 1 (ints [3, 4, 5])) ?_ ?_
  · refine SX.region ?_
    refine SXL.callF (SpR fnt) fn_67 rfl (fun w hI => fountain_any [] none 0 (by simp) w (.nil _ _ _)) ?_; rintro _ _ ⟨ra54, rb54, oa54, ob54, rfl, rfl⟩
    refine SXL.call1 (.tuple ⟨[.int .i64 1, .int .i64 0]⟩) fn_42 rfl (fun w hI => (sfails_any fnt ra54.addr rb54.addr ra54.cap rb54.cap 20 (by decide) (by decide) _ (hg.inv hI) (spAtOwn hI oa54 ob54 (i := 3) (j := 4) rfl rfl)).eqv (by rw [fx_fails.1, fx_fails.2])) ?_
    refine SXL.move rfl ?_
    refine SXL.extract rfl rfl ?_
    refine SXL.extract rfl rfl ?_
    refine SXL.assign rfl ?_
    refine SXL.assign rfl ?_
    refine SXL.nil ?_
    refine thenQ.normal ?_
    refine ⟨(_, _, _), MeetsW.mkS [0, 1, 2] ⟨rfl, rfl, rfl, rfl, rfl, trivial⟩ ⟨rfl, rfl, rfl, rfl, rfl, rfl, rfl, rfl, trivial⟩ rfl, u40⟩
  rintro ⟨b1, b7, q40⟩ u40
  refine SX.cutW (α := Nat × Nat × Sl) [0, 2, 3, 4, 6, 8, 9, 10, 11, 12] rfl (fun ⟨b1, b7, q40⟩ => [(13, .int .i64 2), (14, .int .i64 0), (1, .pointer (some ⟨b1, 0, none⟩)), (7, .pointer (some ⟨b7, 0, none⟩)), (5, q40.val 3)]) (fun ⟨b1, b7, q40⟩ => [(b1, .cells ⟨[.int .i64 26, .int .i64 33]⟩ 23 (0, 0)), (b7, .cells ⟨[.int .i64 18, .int .i64 33]⟩ 23 (0, 0)), q40.ent 3 (ints [3, 4, 5])]) (fun ⟨b1, b7, q40⟩ => []) (fun ⟨b1, b7, q40⟩ => q40.Ok 3 1 (ints [3, 4, 5])) ?_ ?_
  · refine SX.region ?_
    refine SXL.callF (SpR fnt) fn_67 rfl (fun w hI => fountain_any [] none 0 (by simp) w (.nil _ _ _)) ?_; rintro _ _ ⟨ra59, rb59, oa59, ob59, rfl, rfl⟩
    refine SXL.call1 (.tuple ⟨[.int .i64 2, .int .i64 0]⟩) fn_44 rfl (fun w hI => (ssurely_any fnt ra59.addr rb59.addr ra59.cap rb59.cap 26 (by decide) (by decide) _ (hg.inv hI) (spAtOwn hI oa59 ob59 (i := 3) (j := 4) rfl rfl)).eqv (by rw [fx_surely.1, fx_surely.2])) ?_
    refine SXL.move rfl ?_
    refine SXL.extract rfl rfl ?_
    refine SXL.extract rfl rfl ?_
    refine SXL.assign rfl ?_
    refine SXL.assign rfl ?_
    refine SXL.nil ?_
    refine thenQ.normal ?_
    refine ⟨(_, _, _), MeetsW.mkS [0, 1, 2] ⟨rfl, rfl, rfl, rfl, rfl, trivial⟩ ⟨rfl, rfl, rfl, rfl, rfl, rfl, rfl, rfl, rfl, rfl, trivial⟩ rfl, u40⟩
  rintro ⟨b1, b7, q40⟩ u40
  refine SX.cutW (α := Nat × Nat × Sl × Sl) [0, 2, 3, 4, 6, 8, 9, 10, 11, 12, 13, 14] rfl (fun ⟨b1, b7, q40, q65⟩ => [(15, .int .i64 3), (17, .int .i64 0), (1, .pointer (some ⟨b1, 0, none⟩)), (7, .pointer (some ⟨b7, 0, none⟩)), (5, q40.val 3), (16, q65.val 4)]) (fun ⟨b1, b7, q40, q65⟩ => [(b1, .cells ⟨[.int .i64 26, .int .i64 33]⟩ 23 (0, 0)), (b7, .cells ⟨[.int .i64 18, .int .i64 33]⟩ 23 (0, 0)), q40.ent 3 (ints [3, 4, 5]), q65.ent 3 (ints [26, 18, 10, 2])]) (fun ⟨b1, b7, q40, q65⟩ => []) (fun ⟨b1, b7, q40, q65⟩ => q40.Ok 3 1 (ints [3, 4, 5]) ∧ q65.Ok 4 1 (ints [26, 18, 10, 2])) ?_ ?_
  · refine SX.region ?_
    refine SXL.callF (SpR fnt) fn_67 rfl (fun w hI => fountain_any [] none 0 (by simp) w (.nil _ _ _)) ?_; rintro _ _ ⟨ra64, rb64, oa64, ob64, rfl, rfl⟩
    refine SXL.callF (IsR3 3 [26, 18, 10, 2] 0) fn_46 rfl (fun w hI => (spoor_any fnt ra64.addr rb64.addr ra64.cap rb64.cap (by decide) (by decide) w (hg.inv hI) (spAtOwn hI oa64 ob64 (i := 3) (j := 4) rfl rfl)).mono (fun v own h => by rw [fx_poor.1, fx_poor.2, fx_told.2] at h; exact h)) ?_; rintro _ _ ⟨q65, u65, rfl, rfl⟩
    refine SXL.move rfl ?_
    refine SXL.extract rfl rfl ?_
    refine SXL.extract rfl rfl ?_
    refine SXL.extract rfl rfl ?_
    refine SXL.assign rfl ?_
    refine SXL.assign rfl ?_
    refine SXL.assign rfl ?_
    refine SXL.nil ?_
    refine thenQ.normal ?_
    refine ⟨(_, _, _, _), MeetsW.mkS [0, 1, 2, 5] ⟨rfl, rfl, rfl, rfl, rfl, rfl, trivial⟩ ⟨rfl, rfl, rfl, rfl, rfl, rfl, rfl, rfl, rfl, rfl, rfl, rfl, trivial⟩ rfl, ⟨u40, u65⟩⟩
  rintro ⟨b1, b7, q40, q65⟩ ⟨u40, u65⟩
  refine SX.cutW (α := Nat × Nat × Sl × Sl × Sl) [0, 2, 3, 4, 6, 8, 9, 10, 11, 12, 13, 14, 15, 17] rfl (fun ⟨b1, b7, q40, q65, q71⟩ => [(18, .int .i64 4), (20, .int .i64 0), (1, .pointer (some ⟨b1, 0, none⟩)), (7, .pointer (some ⟨b7, 0, none⟩)), (5, q40.val 3), (16, q65.val 4), (19, q71.val 4)]) (fun ⟨b1, b7, q40, q65, q71⟩ => [(b1, .cells ⟨[.int .i64 26, .int .i64 33]⟩ 23 (0, 0)), (b7, .cells ⟨[.int .i64 18, .int .i64 33]⟩ 23 (0, 0)), q40.ent 3 (ints [3, 4, 5]), q65.ent 3 (ints [26, 18, 10, 2]), q71.ent 3 (ints [33, 33, 25, 25])]) (fun ⟨b1, b7, q40, q65, q71⟩ => []) (fun ⟨b1, b7, q40, q65, q71⟩ => q40.Ok 3 1 (ints [3, 4, 5]) ∧ q65.Ok 4 1 (ints [26, 18, 10, 2]) ∧ q71.Ok 4 1 (ints [33, 33, 25, 25])) ?_ ?_
  · refine SX.region ?_
    refine SXL.callF (SpR fnt) fn_67 rfl (fun w hI => fountain_any [] none 0 (by simp) w (.nil _ _ _)) ?_; rintro _ _ ⟨ra70, rb70, oa70, ob70, rfl, rfl⟩
    refine SXL.callF (IsR3 4 [33, 33, 25, 25] 0) fn_48 rfl (fun w hI => (srich_any fnt ra70.addr rb70.addr ra70.cap rb70.cap (by decide) (by decide) w (hg.inv hI) (spAtOwn hI oa70 ob70 (i := 4) (j := 5) rfl rfl)).mono (fun v own h => by rw [fx_rich.1, fx_rich.2, fx_told.2] at h; exact h)) ?_; rintro _ _ ⟨q71, u71, rfl, rfl⟩
    refine SXL.move rfl ?_
    refine SXL.extract rfl rfl ?_
    refine SXL.extract rfl rfl ?_
    refine SXL.extract rfl rfl ?_
    refine SXL.assign rfl ?_
    refine SXL.assign rfl ?_
    refine SXL.assign rfl ?_
    refine SXL.nil ?_
    refine thenQ.normal ?_
    refine ⟨(_, _, _, _, _), MeetsW.mkS [0, 1, 2, 3, 6] ⟨rfl, rfl, rfl, rfl, rfl, rfl, rfl, trivial⟩ ⟨rfl, rfl, rfl, rfl, rfl, rfl, rfl, rfl, rfl, rfl, rfl, rfl, rfl, rfl, trivial⟩ rfl, ⟨u40, u65, u71⟩⟩
  rintro ⟨b1, b7, q40, q65, q71⟩ ⟨u40, u65, u71⟩
  refine SX.cutW (α := Unit) [0, 2, 4, 6, 8, 10] rfl (fun _ => []) (fun _ => []) (fun _ => []) (fun _ => True) ?_ ?_
  · refine SX.seq ?_
    refine SX.draw 77 (by kernel_rfl) (by kernel_rfl) {} ?_
    refine SXA.take 0 18 rfl (by kernel_rfl) rfl ?_
    refine SXL.move rfl ?_
    refine SXL.neqF rfl rfl ?_
    refine SXL.move rfl ?_
    refine SXL.loadNo 0 sh_23 rfl rfl rfl ?_
    refine SXL.call1 (.agg ⟨[.int .i64 26, .int .i64 33]⟩) fn_63 rfl (fun w hI => mkSpan_any _ _ _) ?_
    refine SXL.neqVF (xs := [26, 33]) eq_23 eg_23 sh_23 rfl rfl rfl ?_
    refine SXL.pickAt (EnvSub.refl _) rfl rfl ?_ rfl rfl
    refine SXL.move rfl ?_
    refine SXL.move rfl ?_
    refine SXL.neqF rfl rfl ?_
    refine SXL.pickAt (EnvSub.refl _) rfl rfl ?_ rfl rfl
    refine SXL.move rfl ?_
    refine SXL.move rfl ?_
    refine SXL.notF rfl ?_
    refine SXL.pickAt (EnvSub.refl _) rfl rfl ?_ rfl rfl
    refine SXL.move rfl ?_
    refine SXL.move rfl ?_
    refine SXL.move rfl ?_
    refine SXL.nil ⟨rfl, rfl, rfl, ?_⟩
    refine SXA.all [18] (by kernel_rfl) rfl ⟨⟨?_, rfl⟩, trivial⟩
    refine (show SXL _ _ [_] _ _ from ?_)
    refine SXL.buildSlice et_35 zp_3 rfl rfl rfl rfl ?_; intro b5
    refine SXL.nil (stepQ.mk _ rfl rfl ?_)
    refine SXA.take 19 43 rfl (by kernel_rfl) rfl ?_
    refine SXL.call1 (.bool true) fn_108 rfl (fun w hI => (is_any [3, 4, 5] [3, 4, 5] 0 q40.addr (some ⟨b5, 0, none⟩) q40.cap 3 (by decide) _ (slOnes hI u40 (i := 2) rfl) (ownOnes hI (i := 5) [3, 4, 5] rfl)).eqv (congrArg Value.bool (decide_eq_true ⟨rfl, rfl⟩))) ?_
    refine SXL.notF rfl ?_
    refine SXL.pickAt (EnvSub.refl _) rfl rfl ?_ rfl rfl
    refine SXL.move rfl ?_
    refine SXL.move rfl ?_
    refine SXL.neqF rfl rfl ?_
    refine SXL.pickAt (EnvSub.refl _) rfl rfl ?_ rfl rfl
    refine SXL.move rfl ?_
    refine SXL.loadNo 1 sh_23 rfl rfl rfl ?_
    refine SXL.call1 (.agg ⟨[.int .i64 18, .int .i64 33]⟩) fn_63 rfl (fun w hI => mkSpan_any _ _ _) ?_
    refine SXL.neqVF (xs := [18, 33]) eq_23 eg_23 sh_23 rfl rfl rfl ?_
    refine SXL.pickAt (EnvSub.refl _) rfl rfl ?_ rfl rfl
    refine SXL.move rfl ?_
    refine SXL.move rfl ?_
    refine SXL.neqF rfl rfl ?_
    refine SXL.pickAt (EnvSub.refl _) rfl rfl ?_ rfl rfl
    refine SXL.move rfl ?_
    refine SXL.move rfl ?_
    refine SXL.neqF rfl rfl ?_
    refine SXL.pickAt (EnvSub.refl _) rfl rfl ?_ rfl rfl
    refine SXL.move rfl ?_
    refine SXL.move rfl ?_
    refine SXL.neqF rfl rfl ?_
    refine SXL.pickAt (EnvSub.refl _) rfl rfl ?_ rfl rfl
    refine SXL.move rfl ?_
    refine SXL.move rfl ?_
    refine SXL.neqF rfl rfl ?_
    refine SXL.pickAt (EnvSub.refl _) rfl rfl ?_ rfl rfl
    refine SXL.move rfl ?_
    refine SXL.move rfl ?_
    refine SXL.neqF rfl rfl ?_
    refine SXL.pickAt (EnvSub.refl _) rfl rfl ?_ rfl rfl
    refine SXL.move rfl ?_
    refine SXL.move rfl ?_
    refine SXL.neqF rfl rfl ?_
    refine SXL.pickAt (EnvSub.refl _) rfl rfl ?_ rfl rfl
    refine SXL.move rfl ?_
    refine SXL.move rfl ?_
    refine SXL.neqF rfl rfl ?_
    refine SXL.pickAt (EnvSub.refl _) rfl rfl ?_ rfl rfl
    refine SXL.move rfl ?_
    refine SXL.move rfl ?_
    refine SXL.move rfl ?_
    refine SXL.nil ⟨rfl, rfl, rfl, ?_⟩
    refine SXA.all [62] (by kernel_rfl) rfl ⟨⟨?_, rfl⟩, trivial⟩
    refine (show SXL _ _ [_] _ _ from ?_)
    refine SXL.buildSlice et_35 zp_3 rfl rfl rfl rfl ?_; intro b6
    refine SXL.nil (stepQ.mk _ rfl rfl ?_)
    refine SXA.take 63 10 rfl (by kernel_rfl) rfl ?_
    refine SXL.call1 (.bool true) fn_108 rfl (fun w hI => (is_any [26, 18, 10, 2] [26, 18, 10, 2] 0 q65.addr (some ⟨b6, 0, none⟩) q65.cap 4 (by decide) _ (slOnes hI u65 (i := 3) rfl) (ownOnes hI (i := 6) [26, 18, 10, 2] rfl)).eqv (congrArg Value.bool (decide_eq_true ⟨rfl, rfl⟩))) ?_
    refine SXL.notF rfl ?_
    refine SXL.pickAt (EnvSub.refl _) rfl rfl ?_ rfl rfl
    refine SXL.move rfl ?_
    refine SXL.move rfl ?_
    refine SXL.neqF rfl rfl ?_
    refine SXL.pickAt (EnvSub.refl _) rfl rfl ?_ rfl rfl
    refine SXL.move rfl ?_
    refine SXL.move rfl ?_
    refine SXL.move rfl ?_
    refine SXL.nil ⟨rfl, rfl, rfl, ?_⟩
    refine SXA.all [73] (by kernel_rfl) rfl ⟨⟨?_, rfl⟩, trivial⟩
    refine (show SXL _ _ [_] _ _ from ?_)
    refine SXL.buildSlice et_35 zp_3 rfl rfl rfl rfl ?_; intro b7
    refine SXL.nil (stepQ.mk _ rfl rfl ?_)
    refine SXA.take 74 3 rfl (by kernel_rfl) rfl ?_
    refine SXL.call1 (.bool true) fn_108 rfl (fun w hI => (is_any [33, 33, 25, 25] [33, 33, 25, 25] 0 q71.addr (some ⟨b7, 0, none⟩) q71.cap 4 (by decide) _ (slOnes hI u71 (i := 4) rfl) (ownOnes hI (i := 7) [33, 33, 25, 25] rfl)).eqv (congrArg Value.bool (decide_eq_true ⟨rfl, rfl⟩))) ?_
    refine SXL.notF rfl ?_
    refine SXL.pickAt (EnvSub.refl _) rfl rfl ?_ rfl rfl
    refine SXL.nil ⟨rfl, rfl, rfl, ?_⟩
    refine SXA.done (by kernel_rfl) ?_
    refine SXL.nil ?_
    refine thenQ.normal ?_
    refine SX.condP (p := False) rfl (fun c151 => ?_) (fun c151 => ?_)
    · exfalso; exact c151
    refine SX.skip ?_
    refine thenQ.normal ?_
    refine ⟨(), MeetsW.mkS [] trivial ⟨rfl, rfl, rfl, rfl, rfl, rfl, trivial⟩ rfl, trivial⟩
  rintro _ _
  refine SX.cutW (α := Nat) [0, 4, 6, 8, 10] rfl (fun b21 => [(2, .int .i64 0), (21, .pointer (some ⟨b21, 0, none⟩))]) (fun b21 => [(b21, .cells ⟨[.int .i64 144, .int .i64 1800]⟩ 23 (0, 0))]) (fun b21 => []) (fun b21 => True) ?_ ?_
  · refine SX.region ?_
    refine SXL.callF (SpR fnt) fn_67 rfl (fun w hI => fountain_any [] none 0 (by simp) w (.nil _ _ _)) ?_; rintro _ _ ⟨ra153, rb153, oa153, ob153, rfl, rfl⟩
    refine SXL.call1 (.tuple ⟨[.agg ⟨[.int .i64 144, .int .i64 1800]⟩, .int .i64 0]⟩) fn_50 rfl (fun w hI => (sfill_any fnt ra153.addr rb153.addr ra153.cap rb153.cap 3 1 (by decide) (by decide) _ (hg.inv hI) (spAtOwn hI oa153 ob153 (i := 0) (j := 1) rfl rfl)).eqv (by rw [fx_fill.1, fx_fill.2.1, fx_fill.2.2])) ?_
    refine SXL.move rfl ?_
    refine SXL.extract rfl rfl ?_
    refine SXL.extract rfl rfl ?_
    refine SXL.alloc zp_23 ?_; intro b2
    refine SXL.store 2 sz_23 rfl rfl rfl rfl rfl rfl ?_
    refine SXL.assign rfl ?_
    refine SXL.nil ?_
    refine thenQ.normal ?_
    refine ⟨(_), MeetsW.mkS [2] ⟨rfl, rfl, trivial⟩ ⟨rfl, rfl, rfl, rfl, rfl, trivial⟩ rfl, trivial⟩
  rintro b21 _
  refine SX.cutW (α := Nat) [0, 2, 6, 8, 10] rfl (fun b21 => [(22, .int .i64 2), (23, .int .i64 23), (4, .int .i64 0), (21, .pointer (some ⟨b21, 0, none⟩))]) (fun b21 => [(b21, .cells ⟨[.int .i64 144, .int .i64 1800]⟩ 23 (0, 0))]) (fun b21 => []) (fun b21 => True) ?_ ?_
  · refine SX.region ?_
    refine SXL.callF (SpR fnt) fn_67 rfl (fun w hI => fountain_any [] none 0 (by simp) w (.nil _ _ _)) ?_; rintro _ _ ⟨ra158, rb158, oa158, ob158, rfl, rfl⟩
    refine SXL.call1 (.tuple ⟨[.int .i64 2, .int .i64 23, .int .i64 0]⟩) fn_52 rfl (fun w hI => (slook_any fnt ra158.addr rb158.addr ra158.cap rb158.cap (by decide) (by decide) _ (hg.inv hI) (spAtOwn hI oa158 ob158 (i := 1) (j := 2) rfl rfl)).eqv (by rw [fx_look.1, fx_look.2, fx_told.2])) ?_
    refine SXL.move rfl ?_
    refine SXL.extract rfl rfl ?_
    refine SXL.extract rfl rfl ?_
    refine SXL.extract rfl rfl ?_
    refine SXL.assign rfl ?_
    refine SXL.assign rfl ?_
    refine SXL.assign rfl ?_
    refine SXL.nil ?_
    refine thenQ.normal ?_
    refine ⟨(_), MeetsW.mkS [0] ⟨rfl, rfl, rfl, rfl, trivial⟩ ⟨rfl, rfl, rfl, rfl, rfl, trivial⟩ rfl, trivial⟩
  rintro b21 _
  refine SX.cutW (α := Nat × Sl) [0, 2, 4, 8, 10, 22, 23] rfl (fun ⟨b21, q165⟩ => [(6, .int .i64 0), (21, .pointer (some ⟨b21, 0, none⟩)), (24, q165.val 1)]) (fun ⟨b21, q165⟩ => [(b21, .cells ⟨[.int .i64 144, .int .i64 1800]⟩ 23 (0, 0)), q165.ent 3 (ints [1])]) (fun ⟨b21, q165⟩ => []) (fun ⟨b21, q165⟩ => q165.Ok 1 1 (ints [1])) ?_ ?_
  · refine SX.region ?_
    refine SXL.callF (SpR fnt) fn_67 rfl (fun w hI => fountain_any [] none 0 (by simp) w (.nil _ _ _)) ?_; rintro _ _ ⟨ra164, rb164, oa164, ob164, rfl, rfl⟩
    refine SXL.callF (IsR2 [1] 0) fn_32 rfl (fun w hI => (srests_any fnt ra164.addr rb164.addr ra164.cap rb164.cap 0 (by decide) (by decide) w (hg.inv hI) (spAtOwn hI oa164 ob164 (i := 1) (j := 2) rfl rfl)).mono (fun v own h => by rw [fx_rests, fx_told.2] at h; exact h)) ?_; rintro _ _ ⟨q165, u165, rfl, rfl⟩
    refine SXL.move rfl ?_
    refine SXL.extract rfl rfl ?_
    refine SXL.extract rfl rfl ?_
    refine SXL.assign rfl ?_
    refine SXL.assign rfl ?_
    refine SXL.nil ?_
    refine thenQ.normal ?_
    refine ⟨(_, _), MeetsW.mkS [0, 3] ⟨rfl, rfl, rfl, trivial⟩ ⟨rfl, rfl, rfl, rfl, rfl, rfl, rfl, trivial⟩ rfl, u165⟩
  rintro ⟨b21, q165⟩ u165
  refine SX.cutW (α := Nat × Sl × Sl) [0, 2, 4, 6, 10, 22, 23] rfl (fun ⟨b21, q165, q170⟩ => [(8, .int .i64 0), (21, .pointer (some ⟨b21, 0, none⟩)), (24, q165.val 1), (25, q170.val 1)]) (fun ⟨b21, q165, q170⟩ => [(b21, .cells ⟨[.int .i64 144, .int .i64 1800]⟩ 23 (0, 0)), q165.ent 3 (ints [1]), q170.ent 3 (ints [3])]) (fun ⟨b21, q165, q170⟩ => []) (fun ⟨b21, q165, q170⟩ => q165.Ok 1 1 (ints [1]) ∧ q170.Ok 1 1 (ints [3])) ?_ ?_
  · refine SX.region ?_
    refine SXL.callF (SpR oddS) fn_68 rfl (fun w hI => odd_any w) ?_; rintro _ _ ⟨ra169, rb169, oa169, ob169, rfl, rfl⟩
    refine SXL.callF (IsR2 [3] 0) fn_34 rfl (fun w hI => (swrong_any oddS ra169.addr rb169.addr ra169.cap rb169.cap (by decide) (by decide) w (hg.inv hI) (spAtOwn hI oa169 ob169 (i := 2) (j := 3) rfl rfl)).mono (fun v own h => by rw [fx_wrong.1, fx_wrong.2] at h; exact h)) ?_; rintro _ _ ⟨q170, u170, rfl, rfl⟩
    refine SXL.move rfl ?_
    refine SXL.extract rfl rfl ?_
    refine SXL.extract rfl rfl ?_
    refine SXL.assign rfl ?_
    refine SXL.assign rfl ?_
    refine SXL.nil ?_
    refine thenQ.normal ?_
    refine ⟨(_, _, _), MeetsW.mkS [0, 1, 4] ⟨rfl, rfl, rfl, rfl, trivial⟩ ⟨rfl, rfl, rfl, rfl, rfl, rfl, rfl, trivial⟩ rfl, ⟨u165, u170⟩⟩
  rintro ⟨b21, q165, q170⟩ ⟨u165, u170⟩
  refine SX.cutW (α := Nat × Sl × Sl × Sl × Sl × Nat) [0, 2, 4, 6, 8, 22, 23] rfl (fun ⟨b21, q165, q170, ra176, rb176, b26⟩ => [(10, .int .i64 0), (21, .pointer (some ⟨b21, 0, none⟩)), (24, q165.val 1), (25, q170.val 1), (26, .pointer (some ⟨b26, 0, none⟩))]) (fun ⟨b21, q165, q170, ra176, rb176, b26⟩ => [(b21, .cells ⟨[.int .i64 144, .int .i64 1800]⟩ 23 (0, 0)), q165.ent 3 (ints [1]), q170.ent 3 (ints [3]), ra176.ent 61 (bookC fnt), rb176.ent 54 (readsC fnt), (b26, .cells ⟨[.int .i64 fnt.weeks, .int .i64 fnt.most, .int .i64 fnt.fall, .int .i64 fnt.a0, .int .i64 fnt.a1, .int .i64 fnt.w0, .int .i64 fnt.w1, ra176.val fnt.book.length, rb176.val fnt.reads.length]⟩ 27 (0, 0))]) (fun ⟨b21, q165, q170, ra176, rb176, b26⟩ => []) (fun ⟨b21, q165, q170, ra176, rb176, b26⟩ => q165.Ok 1 1 (ints [1]) ∧ q170.Ok 1 1 (ints [3]) ∧ ra176.Ok fnt.book.length 5 (bookC fnt) ∧ rb176.Ok fnt.reads.length 5 (readsC fnt)) ?_ ?_
  · refine SX.region ?_
    refine SXL.callF (SpR oddS) fn_68 rfl (fun w hI => odd_any w) ?_; rintro _ _ ⟨ra174, rb174, oa174, ob174, rfl, rfl⟩
    refine SXL.buildSlice et_35 zp_3 rfl rfl rfl rfl ?_; intro b5
    refine SXL.callF (SpE fnt 0) fn_40 rfl (fun w hI => (sstrike_any oddS ra174.addr rb174.addr ra174.cap rb174.cap [3] (some ⟨b5, 0, none⟩) 1 (by decide) (by decide) (by decide) w (hg.inv hI) (spAtOwn hI oa174 ob174 (i := 3) (j := 4) rfl rfl) (ownOnes hI (i := 5) [3] rfl)).mono (fun v own h => by rw [fx_strike.1, fx_strike.2] at h; exact h)) ?_; rintro _ _ ⟨ra176, rb176, oa176, ob176, rfl, rfl⟩
    refine SXL.move rfl ?_
    refine SXL.extract rfl rfl ?_
    refine SXL.extract rfl rfl ?_
    refine SXL.alloc zp_27 ?_; intro b8
    refine SXL.store 8 sz_27 rfl rfl rfl rfl rfl rfl ?_
    refine SXL.assign rfl ?_
    refine SXL.nil ?_
    refine thenQ.normal ?_
    refine ⟨(_, _, _, _, _, _), MeetsW.mkS [0, 1, 2, 6, 7, 8] ⟨rfl, rfl, rfl, rfl, rfl, trivial⟩ ⟨rfl, rfl, rfl, rfl, rfl, rfl, rfl, trivial⟩ rfl, ⟨u165, u170, oa176, ob176⟩⟩
  rintro ⟨b21, q165, q170, ra176, rb176, b26⟩ ⟨u165, u170, oa176, ob176⟩
  refine SX.seq ?_
  refine SX.draw 41 (by kernel_rfl) (by kernel_rfl) {} ?_
  refine SXA.take 0 22 rfl (by kernel_rfl) rfl ?_
  refine SXL.move rfl ?_
  refine SXL.eqlT rfl rfl ?_
  refine SXL.move rfl ?_
  refine SXL.loadNo 0 sh_23 rfl rfl rfl ?_
  refine SXL.call1 (.agg ⟨[.int .i64 144, .int .i64 1800]⟩) fn_63 rfl (fun w hI => mkSpan_any _ _ _) ?_
  refine SXL.eqlVT (xs := [144, 1800]) eq_23 eg_23 sh_23 rfl rfl rfl ?_
  refine SXL.pickAt (EnvSub.refl _) rfl rfl ?_ rfl rfl
  refine SXL.move rfl ?_
  refine SXL.move rfl ?_
  refine SXL.eqlT rfl rfl ?_
  refine SXL.pickAt (EnvSub.refl _) rfl rfl ?_ rfl rfl
  refine SXL.move rfl ?_
  refine SXL.move rfl ?_
  refine SXL.eqlT rfl rfl ?_
  refine SXL.pickAt (EnvSub.refl _) rfl rfl ?_ rfl rfl
  refine SXL.move rfl ?_
  refine SXL.move rfl ?_
  refine SXL.eqlT rfl rfl ?_
  refine SXL.pickAt (EnvSub.refl _) rfl rfl ?_ rfl rfl
  refine SXL.move rfl ?_
  refine SXL.move rfl ?_
  refine SXL.move rfl ?_
  refine SXL.nil ⟨rfl, rfl, rfl, ?_⟩
  refine SXA.all [22] (by kernel_rfl) rfl ⟨⟨?_, rfl⟩, trivial⟩
  refine (show SXL _ _ [_] _ _ from ?_)
  refine SXL.buildSlice et_35 zp_3 rfl rfl rfl rfl ?_; intro b6
  refine SXL.nil (stepQ.mk _ rfl rfl ?_)
  refine SXA.take 23 5 rfl (by kernel_rfl) rfl ?_
  refine SXL.call1 (.bool true) fn_108 rfl (fun w hI => (is_any [1] [1] 0 q165.addr (some ⟨b6, 0, none⟩) q165.cap 1 (by decide) _ (slOnes hI u165 (i := 1) rfl) (ownOnes hI (i := 6) [1] rfl)).eqv (congrArg Value.bool (decide_eq_true ⟨rfl, rfl⟩))) ?_
  refine SXL.pickAt (EnvSub.refl _) rfl rfl ?_ rfl rfl
  refine SXL.move rfl ?_
  refine SXL.move rfl ?_
  refine SXL.move rfl ?_
  refine SXL.nil ⟨rfl, rfl, rfl, ?_⟩
  refine SXA.all [28] (by kernel_rfl) rfl ⟨⟨?_, rfl⟩, trivial⟩
  refine (show SXL _ _ [_] _ _ from ?_)
  refine SXL.buildSlice et_35 zp_3 rfl rfl rfl rfl ?_; intro b7
  refine SXL.nil (stepQ.mk _ rfl rfl ?_)
  refine SXA.take 29 8 rfl (by kernel_rfl) rfl ?_
  refine SXL.call1 (.bool true) fn_108 rfl (fun w hI => (is_any [3] [3] 0 q170.addr (some ⟨b7, 0, none⟩) q170.cap 1 (by decide) _ (slOnes hI u170 (i := 2) rfl) (ownOnes hI (i := 7) [3] rfl)).eqv (congrArg Value.bool (decide_eq_true ⟨rfl, rfl⟩))) ?_
  refine SXL.pickAt (EnvSub.refl _) rfl rfl ?_ rfl rfl
  refine SXL.move rfl ?_
  refine SXL.move rfl ?_
  refine SXL.eqlT rfl rfl ?_
  refine SXL.pickAt (EnvSub.refl _) rfl rfl ?_ rfl rfl
  refine SXL.move rfl ?_
  refine SXL.loadNo 5 sh_27 rfl rfl rfl ?_
  refine SXL.nil ⟨rfl, rfl, rfl, ?_⟩
  refine SXA.all [37] (by kernel_rfl) rfl ⟨⟨?_, rfl⟩, trivial⟩
  refine (show SXL _ _ [_] _ _ from ?_)
  refine SXL.callF (SpR fnt) fn_67 rfl (fun w hI => fountain_any [] none 0 (by simp) w (.nil _ _ _)) ?_; rintro _ _ ⟨ra216, rb216, oa216, ob216, rfl, rfl⟩
  refine SXL.nil (stepQ.mk _ rfl rfl ?_)
  refine SXA.take 38 3 rfl (by kernel_rfl) rfl ?_
  refine SXL.call1 (.bool true) fn_29 rfl (fun w hI => (same_any fnt fnt ra176.addr rb176.addr ra216.addr rb216.addr ra176.cap rb176.cap ra216.cap rb216.cap (by decide) (by decide) _ (spAtOwn hI oa176 ob176 (i := 3) (j := 4) rfl rfl) (spAtOwn hI oa216 ob216 (i := 8) (j := 9) rfl rfl)).eqv (congrArg Value.bool (decide_eq_true rfl))) ?_
  refine SXL.pickAt (EnvSub.refl _) rfl rfl ?_ rfl rfl
  refine SXL.assign rfl ?_
  refine SXL.nil ⟨rfl, rfl, rfl, ?_⟩
  refine SXA.done (by kernel_rfl) ?_
  refine SXL.nil ?_
  refine thenQ.normal ?_
  refine SX.ret ?_
  refine retQ.dead [] rfl ?_
  refine retQ.one (ResAt.tmp rfl) ?_
  rfl
end Go.Proofs.YtknflipongbngaaDoor

/- What is told, from week to week. Nothing of Go stands here. -/
namespace Go.S
open Go.X (G idxF idxF_some idxF_none)
theorem told_of_true {s : Sp} (hv : SpP s) (ht : TrueP s) {k : Nat} (hk : k < s.weeks.toNat) : toldE s k = 0 := by
  have hH := hv.1; unfold HeadP at hH
  unfold toldE
  rw [if_neg (fun h => h hv), if_neg (fun h => h ⟨by omega, by omega⟩), if_neg ht]
theorem told_same {s : Sp} (he : toldE s 0 = 0) {k : Nat} (hk : k < s.weeks.toNat) : toldE s k = 0 ∧ toldA s k = toldA s 0 := by
  obtain ⟨hv, _, ht⟩ := toldE_valid he
  have h := told_of_true hv ht hk
  exact ⟨h, by rw [toldA, toldA, toldL_ok h, toldL_ok he]⟩
theorem gives_at {s : Sp} (he : toldE s 0 = 0) {k : Nat} (hk : k < s.weeks.toNat) : givesLo s k = hLo (toldA s 0) k ∧ givesHi s k = hHi (toldA s 0) k := by
  obtain ⟨h, ha⟩ := told_same he hk
  rw [givesLo, givesHi, if_pos h, if_pos h, ha]
  exact ⟨rfl, rfl⟩
theorem hLo_le {A : List (List Int)} {w : Nat} : ∀ k, (∀ i, i < k → hLoTo A w k ≤ G (A.getD i []) w) ∧ (∀ i, i < k → G (A.getD i []) (10 + w) ≤ hHiTo A w k)
  | 0 => ⟨fun _ h => absurd h (Nat.not_lt_zero _), fun _ h => absurd h (Nat.not_lt_zero _)⟩
  | k + 1 => by
    obtain ⟨h1, h2⟩ := hLo_le (A := A) (w := w) k
    refine ⟨fun i hi => ?_, fun i hi => ?_⟩ <;> simp only [hLoTo, hHiTo]
    · rcases Nat.lt_or_ge i k with h | h
      · have := h1 i h; omega
      · obtain rfl : i = k := by omega
        omega
    · rcases Nat.lt_or_ge i k with h | h
      · have := h2 i h; omega
      · obtain rfl : i = k := by omega
        omega
theorem hLo_ex {A : List (List Int)} {w : Nat} (hA : 0 < A.length) : ∀ k, k ≤ A.length → (∃ i, i < A.length ∧ hLoTo A w k = G (A.getD i []) w) ∧ (∃ i, i < A.length ∧ hHiTo A w k = G (A.getD i []) (10 + w))
  | 0, _ => ⟨⟨0, hA, rfl⟩, ⟨0, hA, rfl⟩⟩
  | k + 1, hk => by
    obtain ⟨⟨i, hi, e1⟩, ⟨j, hj, e2⟩⟩ := hLo_ex (A := A) (w := w) hA k (by omega)
    simp only [hLoTo, hHiTo]
    refine ⟨?_, ?_⟩
    · by_cases h : hLoTo A w k ≤ G (A.getD k []) w
      · exact ⟨i, hi, by omega⟩
      · exact ⟨k, by omega, by omega⟩
    · by_cases h : G (A.getD k []) (10 + w) ≤ hHiTo A w k
      · exact ⟨j, hj, by omega⟩
      · exact ⟨k, by omega, by omega⟩
theorem gives_in {s : Sp} (he : toldE s 0 = 0) {k : Nat} (hk : k < s.weeks.toNat) : 0 ≤ givesLo s k ∧ givesLo s k ≤ givesHi s k ∧ givesHi s k ≤ s.most := by
  obtain ⟨e1, e2⟩ := gives_at he hk
  have hA : 0 < (toldA s 0).length := by rw [told_lens]; exact toldL_pos he
  obtain ⟨i, hi, h1⟩ := (hLo_ex (w := k) hA (toldA s 0).length (Nat.le_refl _)).1
  obtain ⟨j, hj, h2⟩ := (hLo_ex (w := k) hA (toldA s 0).length (Nat.le_refl _)).2
  have h3 := (hLo_le (A := toldA s 0) (w := k) (toldA s 0).length).1 j hj
  have a := toldA_nonneg he hi hk
  have b := toldA_nonneg he hj hk
  rw [e1, e2, hLo, hHi]
  omega
end Go.S

/- SpringWeeks: the walk. -/
namespace Go.Proofs.YtknflipongbngaaDoor
open Go.X Go.S Go.RowKit
end Go.Proofs.YtknflipongbngaaDoor

/- How long a bucket takes. Nothing of Go stands here. -/
namespace Go.S
open Go.X (G)
variable {s : Sp} {k : Nat} {a : Int}
/-! ### the week that tells most -/
end Go.S

/- Fewer truths: what is told is within what was told. Nothing of Go stands here. -/
namespace Go.S
open Go.X (G)
def allTo (s : Sp) : Nat → Int
  | 0 => 0
  | k + 1 => allTo s k + (givesHi s k - givesLo s k)
/-- .. and its ends come about. -/
theorem hull_at {s : Sp} (hv : SpP s) {L : List Int} (hL : L.length = 20) (hne : rnsL s L ≠ []) (k : Nat) :
    (∃ r t, Wi r s.w0 s.w1 ∧ Tl s L r t ∧ t k = hLo (lvsL s L (rnsL s L)) k) ∧ (∃ r t, Wi r s.w0 s.w1 ∧ Tl s L r t ∧ t k = hHi (lvsL s L (rnsL s L)) k) := by
  have hA : 0 < (lvsL s L (rnsL s L)).length := by simpa [lvsL] using List.length_pos_iff.2 hne
  obtain ⟨⟨i, hi, e1⟩, ⟨j, hj, e2⟩⟩ := hLo_ex (w := k) hA (lvsL s L (rnsL s L)).length (Nat.le_refl _)
  have key : ∀ i, i < (lvsL s L (rnsL s L)).length → ∃ r, Wi r s.w0 s.w1 ∧ Tl s L r (fun w => G ((lvsL s L (rnsL s L)).getD i []) w) ∧ Tl s L r (fun w => G ((lvsL s L (rnsL s L)).getD i []) (10 + w)) := fun i hi => by
    obtain ⟨r, hr, e⟩ := List.mem_map.1 (getD_mem hi)
    obtain ⟨h1, h2⟩ := mem_rnsL.1 hr
    have := lv_ends hv hL h2
    rw [e] at this
    exact ⟨r, h1, this⟩
  obtain ⟨r1, a1, b1, _⟩ := key i hi
  obtain ⟨r2, a2, _, c2⟩ := key j hj
  exact ⟨⟨r1, _, a1, b1, e1.symm⟩, ⟨r2, _, a2, c2, e2.symm⟩⟩
end Go.S

/- The calculus' rules: conversions between integers, shifts, bits. Nothing of the program stands here. -/
namespace Go.X
open Go Go.RowKit
def cvP (P : Program) (src dst : TypeId) (k : IntKind) : Bool := match P.underlying src, P.underlying dst with | some _, some (.int j) => decide (j = k) | _, _ => false
theorem run_cv {P : Program} {w : World} {src dst : TypeId} {k k2 : IntKind} {n : Int} (h : cvP P src dst k2 = true) : (convert src dst (.int k n)).run P w = .ok (.int k2 (k2.wrap n)) w := by
  unfold cvP at h
  split at h
  · rename_i u j h1 h2
    obtain rfl := of_decide_eq_true h
    simp [convert, run_underlying h1, run_underlying h2, Conv.intToInt]
  · cases h
section
variable {C : Cx} {Q : Post} {env : Env} {own : Own} {D : List Deferred} {ops : Array Oper} {rest : List Oper}
variable {d : Nat} {ty : TypeId} {pos : String} {aft : Array Edge} {g : Option (Nat × Bool)} {x y : Operand} {T T' : TypeId} {A B : Int} {k : IntKind}
theorem SXL.cv (hT : cvP C.P T T' .i64 = true) (hx : ev env x = some (.int k A)) (hb : -9223372036854775808 ≤ A ∧ A ≤ 9223372036854775807)
    (h : SXL C ops rest Q ⟨(d, .int .i64 A) :: env, own, D⟩) (hd : Nat.blt d C.n = true := by rfl) (hw : Wanted ops g env = some true := by rfl) :
    SXL C ops ({ dst := some d, op := .convert T T' x, type := ty, pos, after := aft, guard := g } :: rest) Q ⟨env, own, D⟩ :=
  SXL.val rfl hd hw (fun _ e => by cases e) (fun a w ha _ => by
    simp only [execOp, ha.eval hx]
    exact run_val (by rw [run_cv hT, IntWalk.i64_in _ hb])) h
theorem SXL.and (hx : ev env x = some (.int k A)) (hy : ev env y = some (.int k B))
    (h : SXL C ops rest Q ⟨(d, .int k (k.wrap ((BitVec.ofInt k.bits A &&& BitVec.ofInt k.bits B).toNat))) :: env, own, D⟩) (hd : Nat.blt d C.n = true := by rfl) (hw : Wanted ops g env = some true := by rfl) :
    SXL C ops ({ dst := some d, op := .binOp .and T x y T', type := ty, pos, after := aft, guard := g } :: rest) Q ⟨env, own, D⟩ :=
  SXL.bin hx hy (r := .int k (k.wrap ((BitVec.ofInt k.bits A &&& BitVec.ofInt k.bits B).toNat))) (fun w => by
    have e : (do eqGuard .and T x y (.int k A) (.int k B); binOp .and T (.int k A) (.int k B) : Sem Value) = Op.intBits .and k A B := by
      simp [eqGuard, binOp]
    rw [e]; rfl) hd hw h
/-- .. of which the result has a name. -/
theorem SXL.remE {R : Int} (hx : ev env x = some (.int .i64 A)) (hy : ev env y = some (.int .i64 B)) (hb : 0 ≤ A ∧ 1 ≤ B) (hR : A % B = R)
    (h : SXL C ops rest Q ⟨(d, .int .i64 R) :: env, own, D⟩) (hd : Nat.blt d C.n = true := by rfl) (hw : Wanted ops g env = some true := by rfl) :
    SXL C ops ({ dst := some d, op := .binOp .rem T x y T', type := ty, pos, after := aft, guard := g } :: rest) Q ⟨env, own, D⟩ := by
  subst hR; exact SXL.rem hx hy hb h hd hw
end
end Go.X

/- SpringFill, SpringLook: the walks. -/
namespace Go.Proofs.YtknflipongbngaaDoor
open Go.X Go.S Go.RowKit
theorem cv_5_3 : cvP Tryd.prog 5 3 .i64 = true := by kernel_rfl
end Go.Proofs.YtknflipongbngaaDoor

/- The fewest false readings: what is told is the first of the fewest. Nothing of Go stands here. -/
namespace Go.S
open Go.X (G)
/-- One list is before another of its length. -/
def lexB : List Int → List Int → Prop
  | x :: xs, y :: ys => x < y ∨ (x = y ∧ lexB xs ys)
  | _, _ => False
def befP (a b : List Int) : Prop := if a.length ≠ b.length then a.length < b.length else lexB a b
/-- Numbers of readings that stand behind the first i. -/
def Ch (s : Sp) (i m : Nat) (c : List Int) : Prop := c.length = m ∧ c.Sublist ((numsL s).drop i)
end Go.S

/- SpringWrong: the walk. -/
namespace Go.Proofs.YtknflipongbngaaDoor
open Go.X Go.S Go.RowKit
noncomputable instance (a b : List Int) : Decidable (befP a b) := Classical.propDecidable _
/-- The reading's bit stands. -/
abbrev bitOn (bits : Int) (k : Nat) : Prop := IntKind.u16.wrap ((BitVec.ofInt IntKind.u16.bits (bits.fdiv (2 ^ (Min.min (k : Int).toNat IntKind.u16.bits))) &&& BitVec.ofInt IntKind.u16.bits 1).toNat) = 1
def bitL (s : Sp) (bits : Int) : Nat → List Int
  | 0 => []
  | k + 1 => if bitOn bits k then bitL s bits k ++ [(s.reads.getD k default).num] else bitL s bits k
end Go.Proofs.YtknflipongbngaaDoor

/- The helpers of the outright laws: the walks. -/
namespace Go.Proofs.YtknflipongbngaaDoor
open Go.X Go.S Go.RowKit
def BedOk (s : Sp) (rain : Int) (week : Nat) (before lo hi : Int) : Prop := ((0 ≤ lo ∧ before - s.fall ≤ lo) ∧ hi ≤ s.most ∧ hi ≤ before) ∧ (∀ x ∈ s.book, x.wk = week → Wi rain x.r0 x.r1 → x.g0 ≤ lo ∧ hi ≤ x.g1) ∧ OkP s week lo ∧ OkP s week hi
structure BedR (s : Sp) (rain : Int) (week : Nat) (before : Int) (v : Value) (own : X.Own) : Prop where
  ex : ∃ lo hi : Int, v = .tuple ⟨[.int .i64 lo, .int .i64 hi]⟩ ∧ own = [] ∧ (lo ≤ hi → BedOk s rain week before lo hi)
theorem okTo_next {s : Sp} {w : Nat} {n : Int} {k : Nat} (h : OkTo s w n k) (hk : k < s.reads.length) (hx : s.reads[k].wk ≠ w ∨ Right s s.reads[k] n) : OkTo s w n (k + 1) := fun i hi h2 => by
  by_cases e : i = k
  · subst e; exact hx
  · exact h i (by omega) h2
theorem inside_any (n a b : Int) (w : World) :
    CallsR Tryd.prog 58 [.int .i64 n, .agg ⟨[.int .i64 a, .int .i64 b]⟩] w (fun v _ => v = .bool (decide (a ≤ n ∧ n ≤ b))) := by
  refine CallsR.of_SX (n := 15) (rs := [.tmp 4]) Tryd.func58 rfl rfl rfl rfl ?_
  show SX _ _ _ ⟨[(0, .int .i64 n), (1, .agg ⟨[.int .i64 a, .int .i64 b]⟩)], [], []⟩
  refine SX.seq ?_
  refine SX.region ?_
  refine SXL.box rfl rfl ?_; intro b0
  refine SXL.assign rfl ?_
  refine SXL.nil ?_
  refine thenQ.normal ?_
  refine SX.seq ?_
  refine SX.region ?_
  refine SXL.move rfl ?_
  refine SXL.fieldAddr fp_23_0 rfl ?_
  refine SXL.load1o 0 sh_3 rfl rfl rfl ?_
  refine SXL.geq rfl rfl ?_
  refine SXL.move rfl ?_
  apply SXL.andG 4
  case hl => exact rfl
  case hd => exact rfl
  case hg => exact rfl
  case ht =>
    intro g1
    refine SXL.move rfl ?_
    refine SXL.fieldAddr fp_23_1 rfl ?_
    refine SXL.load1o 0 sh_3 rfl rfl rfl ?_
    refine SXL.leq rfl rfl ?_
    exact SXL.nil (segQ.mk (.skip rfl (.skip rfl (.skip rfl (.skip rfl (.skip rfl (EnvSub.refl _)))))) rfl rfl ⟨rfl, rfl⟩)
  case hf =>
    intro g1
    refine SXL.pass rfl rfl rfl ?_
    refine SXL.pass rfl rfl rfl ?_
    refine SXL.pass rfl rfl rfl ?_
    refine SXL.pass rfl rfl rfl ?_
    exact SXL.nil (segQ.mk (.skip rfl (.skip rfl (.skip rfl (.skip rfl (.skip rfl (EnvSub.refl _)))))) rfl rfl rfl)
  refine SXL.assign rfl ?_
  refine SXL.nil ?_
  refine thenQ.normal ?_
  refine SX.ret ?_
  refine retQ.one (ResAt.tmp rfl) ?_
  rfl
theorem has_any (l : List Int) (n : Int) (ao : Option Addr) (c : Nat) (hl : l.length ≤ 1000000) (w : World) (h : RowsAt w ao 1 (ones l)) :
    CallsR Tryd.prog 57 [.slice ao l.length c, .int .i64 n] w (fun v _ => v = .bool (decide (n ∈ l))) := by
  refine CallsR.of_SX (n := 17) (rs := [.tmp 4]) Tryd.func57 rfl rfl rfl rfl ?_
  show SX _ _ _ ⟨[(0, .slice ao l.length c), (1, .int .i64 n)], [], []⟩
  refine SX.seq ?_
  refine SX.region ?_
  refine SXL.assign rfl ?_
  refine SXL.nil ?_
  refine thenQ.normal ?_
  refine SX.seq ?_
  refine SX.seq ?_
  refine SX.region ?_
  refine SXL.move rfl ?_
  refine SXL.len is_35 rfl ?_
  refine SXL.move rfl ?_
  refine SXL.nil ?_
  refine thenQ.normal ?_
  refine SX.block ?_
  refine SX.loopG (α := Nat) [1, 4, 7, 8] rfl (fun k => [(9, .int .i64 ((k : Int)))]) (fun k => []) (fun k => k ≤ l.length ∧ ∀ i, i < k → l.getD i 0 ≠ n) (fun k => l.length - k) 0 ⟨Nat.zero_le _, fun _ h => absurd h (Nat.not_lt_zero _)⟩ ⟨rfl, trivial⟩ rfl ?_
  rintro k ⟨hk0, hall⟩
  refine SX.seq ?_
  refine SX.region ?_
  refine SXL.lss rfl rfl ?_
  refine SXL.nil ?_
  refine thenQ.normal ?_
  refine SX.seq ?_
  refine SX.condP rfl (fun c1 => ?_) (fun c1 => ?_)
  · refine SX.skip ?_
    refine thenQ.normal ?_
    refine SX.seq ?_
    refine SX.block ?_
    refine SX.seq ?_
    have hk : k < l.length := by omega
    obtain ⟨b, o, ha, hm⟩ := oneI h hk
    refine SX.region ?_
    refine SXL.indexR el_35 rfl rfl ha (by omega) ?_
    refine SXL.load1 sh_3 rfl (hm _) ?_
    refine SXL.assign rfl ?_
    refine SXL.nil ?_
    refine thenQ.normal ?_
    refine SX.seq ?_
    refine SX.region ?_
    refine SXL.move rfl ?_
    refine SXL.move rfl ?_
    refine SXL.eqlI rfl rfl ?_
    refine SXL.nil ?_
    refine thenQ.normal ?_
    refine SX.condP rfl (fun c15 => ?_) (fun c15 => ?_)
    · refine SX.seq ?_
      refine SX.region ?_
      refine SXL.assign rfl ?_
      refine SXL.nil ?_
      refine thenQ.normal ?_
      refine SX.ret ?_
      refine blockQ.ret ?_
      refine thenQ.ret ?_
      refine thenQ.ret ?_
      refine blockQ.ret ?_
      refine thenQ.ret ?_
      refine retQ.one (ResAt.tmp rfl) ?_
      exact (congrArg Value.bool (decide_eq_true (by rw [← c15]; simp [hk]))).symm
    · refine SX.skip ?_
      refine blockQ.normal ?_
      refine thenQ.normal ?_
      refine SX.region ?_
      refine SXL.add rfl rfl (by omega) ?_
      refine SXL.move rfl ?_
      refine SXL.nil ?_
      refine thenQ.normal ?_
      refine ⟨k + 1, Meets.mk _ ⟨rfl, trivial⟩ ⟨rfl, rfl, rfl, rfl, trivial⟩ rfl, ?_, (by omega)⟩
      refine ⟨by omega, fun i hi => ?_⟩
      by_cases e : i = k
      · subst e; exact c15
      · exact hall i (by omega)
  · refine SX.exit ?_
    refine thenQ.exit ?_
    refine thenQ.exit ?_
    refine blockQ.exit ?_
    refine thenQ.normal ?_
    refine SX.seq ?_
    refine SX.region ?_
    refine SXL.assign rfl ?_
    refine SXL.nil ?_
    refine thenQ.normal ?_
    refine SX.ret ?_
    refine retQ.one (ResAt.tmp rfl) ?_
    exact (congrArg Value.bool (decide_eq_false (fun hin => by obtain ⟨i, hi, e⟩ := List.getElem_of_mem hin; exact hall i (by omega) (by simp [hi, e])))).symm
theorem fits_any (s : Sp) (bo ro : Option Addr) (bc rc : Nat) (week : Nat) (hwk : week < s.weeks.toNat) (hv : SpP s) (n : Int) (hn : 0 ≤ n ∧ n ≤ 100) (w : World) (hs : SpAt w s bo ro) :
    CallsR Tryd.prog 112 [.agg ⟨[.int .i64 s.weeks, .int .i64 s.most, .int .i64 s.fall, .int .i64 s.a0, .int .i64 s.a1, .int .i64 s.w0, .int .i64 s.w1, (.slice bo s.book.length bc), (.slice ro s.reads.length rc)]⟩, .int .i64 ((week : Int)), .int .i64 n] w (fun v _ => v = .bool (decide (OkP s week n))) := by
  have hH := hv.1
  unfold HeadP at hH
  refine CallsR.of_SX (n := 28) (rs := [.tmp 6]) Tryd.func112 rfl rfl rfl rfl ?_
  show SX _ _ _ ⟨[(0, .agg ⟨[.int .i64 s.weeks, .int .i64 s.most, .int .i64 s.fall, .int .i64 s.a0, .int .i64 s.a1, .int .i64 s.w0, .int .i64 s.w1, (.slice bo s.book.length bc), (.slice ro s.reads.length rc)]⟩), (1, .int .i64 ((week : Int))), (2, .int .i64 n)], [], []⟩
  refine SX.seq ?_
  refine SX.region ?_
  refine SXL.box rfl rfl ?_; intro b0
  refine SXL.assign rfl ?_
  refine SXL.nil ?_
  refine thenQ.normal ?_
  refine SX.seq ?_
  refine SX.seq ?_
  refine SX.region ?_
  refine SXL.fieldAddr fp_27_6 rfl ?_
  refine SXL.load1o 0 sh_25 rfl rfl rfl ?_
  refine SXL.len is_25 rfl ?_
  refine SXL.move rfl ?_
  refine SXL.nil ?_
  refine thenQ.normal ?_
  refine SX.block ?_
  refine SX.loopW (α := Nat) [1, 2, 3, 6, 10, 11] rfl (fun k => [(12, .int .i64 ((k : Int)))]) (fun k => [(b0, .cells ⟨[.int .i64 s.weeks, .int .i64 s.most, .int .i64 s.fall, .int .i64 s.a0, .int .i64 s.a1, .int .i64 s.w0, .int .i64 s.w1, (.slice bo s.book.length bc), (.slice ro s.reads.length rc)]⟩ 27 (0, 0))]) (fun k => []) (fun k => k ≤ s.reads.length ∧ OkTo s week n k) (fun k => s.reads.length - k) 0 ⟨Nat.zero_le _, fun _ h => absurd h (Nat.not_lt_zero _)⟩ ⟨rfl, trivial⟩ rfl ?_
  rintro k ⟨hk0, hall⟩
  refine SX.seq ?_
  refine SX.region ?_
  refine SXL.lss rfl rfl ?_
  refine SXL.nil ?_
  refine thenQ.normal ?_
  refine SX.seq ?_
  refine SX.condP rfl (fun c1 => ?_) (fun c1 => ?_)
  · refine SX.skip ?_
    refine thenQ.normal ?_
    refine SX.seq ?_
    refine SX.block ?_
    refine SX.seq ?_
    have hk : k < s.reads.length := by omega
    obtain ⟨b, o, ha, hm⟩ := hs.read hk
    have hR := (hv.2.2 k hk).1
    refine SX.region ?_
    refine SXL.indexR el_25 rfl rfl ha (by omega) ?_
    refine SXL.loadN sh_54 rfl (hm _) rfl ?_
    refine SXL.alloc zp_54 ?_; intro b1
    refine SXL.store 1 sz_54 rfl rfl rfl rfl rfl rfl ?_
    refine SXL.nil ?_
    refine thenQ.normal ?_
    refine SX.seq ?_
    refine SX.region ?_
    refine SXL.fieldAddr fp_54_1 rfl ?_
    refine SXL.load1o 1 sh_3 rfl rfl rfl ?_
    refine SXL.move rfl ?_
    refine SXL.eqlI rfl rfl ?_
    refine SXL.move rfl ?_
    apply SXL.andG 5
    case hl => exact rfl
    case hd => exact rfl
    case hg => exact rfl
    case ht =>
      intro c26
      refine SXL.loadNo 0 sh_27 rfl rfl rfl ?_
      refine SXL.loadNo 1 sh_54 rfl rfl rfl ?_
      refine SXL.move rfl ?_
      refine SXL.call1 (.bool (decide (Right s s.reads[k] n))) fn_82 rfl (fun w hI => right_any s bo ro bc rc _ _ (by omega) (by omega) (by omega) (by omega) _) ?_
      refine SXL.not rfl ?_
      exact SXL.nil (segQ.mk (.skip rfl (.skip rfl (.skip rfl (.skip rfl (.skip rfl (.skip rfl (EnvSub.refl _))))))) rfl rfl ⟨rfl, rfl⟩)
    case hf =>
      intro c26
      refine SXL.pass rfl rfl rfl ?_
      refine SXL.pass rfl rfl rfl ?_
      refine SXL.pass rfl rfl rfl ?_
      refine SXL.pass rfl rfl rfl ?_
      refine SXL.pass rfl rfl rfl ?_
      exact SXL.nil (segQ.mk (.skip rfl (.skip rfl (.skip rfl (.skip rfl (.skip rfl (.skip rfl (EnvSub.refl _))))))) rfl rfl rfl)
    refine SXL.nil ?_
    refine thenQ.normal ?_
    refine SX.condP rfl (fun c26 => ?_) (fun c26 => ?_)
    · refine SX.seq ?_
      refine SX.region ?_
      refine SXL.assign rfl ?_
      refine SXL.nil ?_
      refine thenQ.normal ?_
      refine SX.ret ?_
      refine blockQ.ret ?_
      refine thenQ.ret ?_
      refine thenQ.ret ?_
      refine blockQ.ret ?_
      refine thenQ.ret ?_
      refine retQ.dead [] rfl ?_
      refine retQ.one (ResAt.tmp rfl) ?_
      exact (congrArg Value.bool (decide_eq_false (fun h => (h k hk).elim (fun h1 => h1 c26.1) c26.2))).symm
    · refine SX.skip ?_
      refine blockQ.normal ?_
      refine thenQ.normal ?_
      refine SX.region ?_
      refine SXL.add rfl rfl (by omega) ?_
      refine SXL.move rfl ?_
      refine SXL.nil ?_
      refine thenQ.normal ?_
      refine ⟨k + 1, MeetsW.mkP _ ⟨rfl, trivial⟩ ⟨rfl, rfl, rfl, rfl, rfl, rfl, trivial⟩ rfl, ?_, (by show s.reads.length - (k + 1) < s.reads.length - k; omega)⟩
      refine ⟨by omega, okTo_next hall hk ?_⟩
      by_cases e : s.reads[k].wk = week
      · exact .inr (Decidable.byContradiction fun h => c26 ⟨e, h⟩)
      · exact .inl e
  · refine SX.exit ?_
    refine thenQ.exit ?_
    refine thenQ.exit ?_
    refine blockQ.exit ?_
    refine thenQ.normal ?_
    refine SX.seq ?_
    refine SX.region ?_
    refine SXL.assign rfl ?_
    refine SXL.nil ?_
    refine thenQ.normal ?_
    refine SX.ret ?_
    refine retQ.dead [] rfl ?_
    refine retQ.one (ResAt.tmp rfl) ?_
    exact (congrArg Value.bool (decide_eq_true (show OkP s week n from fun i h => hall i (by omega) h))).symm
end Go.Proofs.YtknflipongbngaaDoor

/- Truths by numbers. Nothing of Go stands here. -/
namespace Go.S
open Go.X (G)
/-- A truth of the first weeks. -/
def TruthTo (s : Sp) (rain : Int) (l : List Int) (k : Nat) : Prop := ∀ w, w < k →
  ((0 ≤ l.getD w 0 ∧ l.getD w 0 ≤ s.most) ∧ OkP s w (l.getD w 0)) ∧ (∀ x ∈ s.book, x.wk = w → Wi rain x.r0 x.r1 → Wi (l.getD w 0) x.g0 x.g1) ∧ (0 < w → l.getD (w - 1) 0 - s.fall ≤ l.getD w 0 ∧ l.getD w 0 ≤ l.getD (w - 1) 0)
theorem TruthTo.truth {s : Sp} {rain : Int} {l : List Int} (h : TruthTo s rain l s.weeks.toNat) : Truth s rain (fun w => l.getD w 0) := h
end Go.S

/- A truth by numbers: the walk. -/
namespace Go.Proofs.YtknflipongbngaaDoor
open Go.X Go.S Go.RowKit
structure FlowR (s : Sp) (v : Value) (own : X.Own) : Prop where
  ex : ∃ (rain : Int) (q : Sl) (l : List Int) (p : Prop) (_ : Decidable p), q.Ok l.length 1 (ints l) ∧ v = .tuple ⟨[.int .i64 rain, q.val l.length, .bool (decide p)]⟩ ∧ own = [q.ent 3 (ints l)] ∧ (p → Wi rain s.w0 s.w1 ∧ l.length = s.weeks.toNat ∧ TruthTo s rain l s.weeks.toNat)
end Go.Proofs.YtknflipongbngaaDoor

/- What a truth gives in all weeks; how long a bucket takes in it. Nothing of Go stands here. -/
namespace Go.S
open Go.X (G)
theorem ends_facts {s : Sp} (he : toldE s 0 = 0) {i : Nat} (hi : i < (toldA s 0).length) : ((endsL s 0 i).length = s.weeks.toNat ∧ (endsL s 10 i).length = s.weeks.toNat) ∧
    ∀ w, w < s.weeks.toNat → (endsL s 0 i).getD w 0 = G ((toldA s 0).getD i []) w ∧ (endsL s 10 i).getD w 0 = G ((toldA s 0).getD i []) (10 + w) := by
  have hH := (toldE_valid he).1.1
  unfold HeadP at hH
  have hl := toldA_len 0 _ (getD_mem hi)
  refine ⟨⟨endL_len hl (by omega) (by omega), endL_len hl (by omega) (by omega)⟩, fun w hw => ⟨?_, ?_⟩⟩
  · have := endL_at (X := (toldA s 0).getD i []) (off := 0) hw
    rwa [Nat.zero_add] at this
  · exact endL_at (X := (toldA s 0).getD i []) (off := 10) hw
theorem best_facts {s : Sp} (he : toldE s 0 = 0) : ((bestL s 0 (poorI s)).length = s.weeks.toNat ∧ (bestL s 10 (richI s)).length = s.weeks.toNat) ∧
    (∀ i, i < (bestL s 0 (poorI s)).length → 0 ≤ (bestL s 0 (poorI s)).getD i 0 ∧ (bestL s 0 (poorI s)).getD i 0 ≤ 100) ∧ (∀ i, i < (bestL s 10 (richI s)).length → 0 ≤ (bestL s 10 (richI s)).getD i 0 ∧ (bestL s 10 (richI s)).getD i 0 ≤ 100) ∧
    poorI s < (toldA s 0).length ∧ richI s < (toldA s 0).length := by
  have hH := (toldE_valid he).1.1
  unfold HeadP at hH
  have hp := toldL_pos he
  have h1 : poorI s < (toldA s 0).length := by rw [told_lens]; have := amin_le (fun i => sumL (endsL s 0 i)) ((toldL s 0).length - 1); unfold poorI; omega
  have h2 : richI s < (toldA s 0).length := by rw [told_lens]; have := amin_le (fun i => -sumL (endsL s 10 i)) ((toldL s 0).length - 1); unfold richI; omega
  obtain ⟨⟨a1, _⟩, a3⟩ := ends_facts he h1
  obtain ⟨⟨_, b2⟩, b3⟩ := ends_facts he h2
  rw [bestL, bestL, if_pos he, if_pos he]
  refine ⟨⟨a1, b2⟩, fun i hi => ?_, fun i hi => ?_, h1, h2⟩
  · rw [(a3 i (by omega)).1]
    have := toldA_nonneg he h1 (w := i) (by omega)
    omega
  · rw [(b3 i (by omega)).2]
    have := toldA_nonneg he h2 (w := i) (by omega)
    omega
theorem truth_mem {s : Sp} (hv : SpP s) {rain : Int} {t : Nat → Int} (hr : Wi rain s.w0 s.w1) (h : Truth s rain t) : rain ∈ rnsL s (baseL s) := mem_rnsL.2 ⟨hr, lv_bool hv (base_len hv) ((truth_tl hv).1 h)⟩
end Go.S

/- SpringTruth: the walk. -/
namespace Go.Proofs.YtknflipongbngaaDoor
open Go.X Go.S Go.RowKit
end Go.Proofs.YtknflipongbngaaDoor

/- The calculus' rules: calls that turn blocks of the caller's own; copy; append of zeros; overlaps. Nothing of the program stands here. -/
namespace Go.X
open Go Go.RowKit

section
variable {C : Cx} {Q : Post} {env : Env} {own : Own} {D : List Deferred} {ops : Array Oper} {rest : List Oper}
variable {d : Nat} {ty : TypeId} {pos : String} {aft : Array Edge} {g : Option (Nat × Bool)} {x y : Operand} {T T' : TypeId}
end
/-- Some cells of a row set anew. -/
def putL (l : List Value) (off : Nat) (vs : List Value) : List Value := l.take off ++ vs ++ l.drop (off + vs.length)
section
variable {C : Cx} {Q : Post} {env : Env} {own : Own} {D : List Deferred} {ops : Array Oper} {rest : List Oper}
variable {d : Nat} {ty : TypeId} {pos : String} {aft : Array Edge} {g : Option (Nat × Bool)} {x y : Operand} {T T' : TypeId}
/-! ### append of zeros that grows -/
def isI64P (P : Program) (t : TypeId) : Bool := match P.underlying t with | some (.int .i64) => true | _ => false
/-! ### overlaps -/
/-! ### to unsigned integers and back -/
end
end Go.X

/- A reading more: where it is put, and whether the spring is valid. Nothing of Go stands here. -/
namespace Go.S
/-- How many readings stand before a number. -/
def insN : List Rd → Int → Nat
  | [], _ => 0
  | y :: r, n => if y.num < n then insN r n + 1 else 0
/-- Numbers that rise. -/
def Asc (l : List Rd) : Prop := ∀ i, 0 < i → i < l.length → (l.getD (i - 1) default).num < (l.getD i default).num
def insL (l : List Rd) (x : Rd) : List Rd := l.take (insN l x.num) ++ x :: l.drop (insN l x.num)
def insS (s : Sp) (x : Rd) : Sp := { s with reads := insL s.reads x }
def addE (s : Sp) (x : Rd) : Int := if ¬SpP s then 10 else if s.reads.length = 12 then 9 else if ¬SpP (insS s x) then 12 else 0
def addS (s : Sp) (x : Rd) : Sp := if addE s x = 0 then insS s x else zeroSp
end Go.S

/- BinarySearchFunc, Insert, Add: the walks. -/
namespace Go.Proofs.YtknflipongbngaaDoor
open Go.X Go.S Go.RowKit
/-- A reading put in: the slice behind it; the other blocks stay. -/
structure InsR (l : List Rd) (tail : X.Own) (v : Value) (own : X.Own) : Prop where
  ex : ∃ q : Sl, q.Ok l.length 5 (rdC l) ∧ v = q.val l.length ∧ own = q.ent 54 (rdC l) :: tail
def insAt (l : List Rd) (i : Nat) (x : Rd) : List Rd := l.take i ++ x :: l.drop i
structure BsR (reads : List Rd) (n : Int) (v : Value) : Prop where
  ex : ∃ p : Bool, v = .tuple ⟨[.int .i64 (insN reads n : Nat), .bool p]⟩
end Go.Proofs.YtknflipongbngaaDoor

/- Parts of rows in memory. -/
namespace Go.X
open Go Go.RowKit
theorem RowsAt.take {w : World} {ao : Option Addr} {k : Nat} {rows : List (List Value)} (h : RowsAt w ao k rows) (i : Nat) : RowsAt w ao k (rows.take i) := by
  rcases h with rfl | ⟨b, o, rfl, h2⟩
  · left; simp
  · right
    refine ⟨b, o, rfl, fun j r hr => h2 j r ?_⟩
    rw [List.getElem?_take] at hr
    split at hr
    · exact hr
    · cases hr
end Go.X
namespace Go.S
open Go Go.X
end Go.S

/- Add: the walks. -/
namespace Go.Proofs.YtknflipongbngaaDoor
open Go.X Go.S Go.RowKit
end Go.Proofs.YtknflipongbngaaDoor

/- A reading struck and put back; springs with fewer truths. Nothing of Go stands here. -/
namespace Go.S
open Go.X (G)
/-! ### fewer truths -/
/-- All truths of one spring are the other's. -/
structure Less (s' s : Sp) : Prop where
  weeks : s'.weeks = s.weeks
  sub : ∀ r t, Wi r s'.w0 s'.w1 → Truth s' r t → Wi r s.w0 s.w1 ∧ Truth s r t
theorem told0 {s : Sp} (hv : SpP s) (ht : TrueP s) : toldE s 0 = 0 := toldE_ok hv (by have := hv.1; unfold HeadP at this; omega) ht
/-! ### readings and lines more -/
/-! ### a reading struck and put back -/
/-! ### what a reading tells alone -/
/-! ### a number that no reading has -/
def nextTo (l : List Rd) : Nat → Int
  | 0 => 1
  | k + 1 => if (l.getD k default).num = nextTo l k then nextTo l k + 1 else nextTo l k
def nextN (s : Sp) : Int := nextTo s.reads s.reads.length
end Go.S

/- SpringRests: the walk. -/
namespace Go.Proofs.YtknflipongbngaaDoor
open Go.X Go.S Go.RowKit
end Go.Proofs.YtknflipongbngaaDoor

/- SpringMore: the walk. -/
namespace Go.Proofs.YtknflipongbngaaDoor
open Go.X Go.S Go.RowKit
end Go.Proofs.YtknflipongbngaaDoor

/- Both ends of what is told come about. Nothing of Go stands here. -/
namespace Go.S
open Go.X (G)
/-- A rain, and what is given week by week, are a truth. -/
def HoldsP (s : Sp) (rain : Int) (l : List Int) : Prop := (l.length = s.weeks.toNat ∧ Wi rain s.w0 s.w1) ∧ TruthTo s rain l s.weeks.toNat
/-- One rain, of which it is told what it gives in a week. -/
def onlyB (s : Sp) (rain : Int) : List Ln := s.book.filter fun x => decide (Wi rain x.r0 x.r1)
def onlyS (s : Sp) (rain wk n : Int) : Sp := { s with w0 := rain, w1 := rain, book := onlyB s rain ++ [⟨rain, rain, wk, n, n⟩] }
/-- One rain. -/
def oneR (s : Sp) (rain : Int) : Sp := { s with w0 := rain, w1 := rain }
theorem onlyB_len (s : Sp) (rain : Int) : (onlyB s rain).length ≤ s.book.length := List.length_filter_le _ _
theorem bookP_iff (s : Sp) : BookP s ↔ ∀ x ∈ s.book, LnP x s.weeks := by
  constructor
  · intro h x hx
    obtain ⟨i, hi, rfl⟩ := List.getElem_of_mem hx
    exact h i hi
  · intro h i hi
    exact h _ (List.getElem_mem hi)
theorem only_valid {s : Sp} (hv : SpP s) (hb : s.book.length < 8) {rain : Int} (hr : Wi rain s.w0 s.w1) {k : Nat} (hk : k < s.weeks.toNat) {n : Int} (hn : 0 ≤ n ∧ n ≤ 100) : SpP (onlyS s rain k n) := by
  have hH := hv.1
  unfold HeadP at hH
  refine ⟨?_, (bookP_iff _).2 fun x hx => ?_, hv.2.2⟩
  · unfold HeadP
    have := onlyB_len s rain
    simp only [onlyS, List.length_append, List.length_cons, List.length_nil]
    omega
  · rcases List.mem_append.1 hx with hx | hx
    · exact (bookP_iff s).1 hv.2.1 x (List.mem_filter.1 hx).1
    · have : x = ⟨rain, rain, k, n, n⟩ := by simpa using hx
      subst this
      show LnP _ s.weeks
      dsimp only [LnP]
      omega
theorem only_truth {s : Sp} {rain : Int} {k : Nat} (hk : k < s.weeks.toNat) {n : Int} {t : Nat → Int} : Truth (onlyS s rain k n) rain t ↔ (Truth s rain t ∧ t k = n) := by
  constructor
  · intro h
    refine ⟨fun w hw => ?_, ?_⟩
    · have h1 := h w hw
      refine ⟨h1.1, fun x hx hwk hr => h1.2.1 x (List.mem_append.2 (.inl (List.mem_filter.2 ⟨hx, by simpa using hr⟩))) hwk hr, h1.2.2⟩
    · have h1 := (h k hk).2.1 ⟨rain, rain, k, n, n⟩ (List.mem_append.2 (.inr (by simp))) rfl ⟨Int.le_refl _, Int.le_refl _⟩
      simp only at h1
      omega
  · rintro ⟨h, ht⟩ w hw
    have h1 := h w hw
    refine ⟨h1.1, fun x hx hwk hr => ?_, h1.2.2⟩
    rcases List.mem_append.1 hx with hx | hx
    · exact h1.2.1 x (List.mem_filter.1 hx).1 hwk hr
    · have : x = ⟨rain, rain, k, n, n⟩ := by simpa using hx
      subst this
      have hwk' : w = k := by have : (k : Int) = (w : Int) := hwk; omega
      subst hwk'
      exact ⟨by show n ≤ t w; omega, by show t w ≤ n; omega⟩
theorem only_true {s : Sp} (hv : SpP s) (hb : s.book.length < 8) {rain : Int} (hr : Wi rain s.w0 s.w1) {k : Nat} (hk : k < s.weeks.toNat) {n : Int} (hn : 0 ≤ n ∧ n ≤ 100) : TrueP (onlyS s rain k n) ↔ ∃ t, Truth s rain t ∧ t k = n := by
  rw [true_iff (only_valid hv hb hr hk hn)]
  constructor
  · rintro ⟨r, t, h1, h2⟩
    have : r = rain := by have h3 : rain ≤ r ∧ r ≤ rain := h1; omega
    subst this
    exact ⟨t, (only_truth hk).1 h2⟩
  · rintro ⟨t, h⟩
    exact ⟨rain, t, ⟨Int.le_refl _, Int.le_refl _⟩, (only_truth hk).2 h⟩
theorem only_rain {s : Sp} (hv : SpP s) (ht : TrueP s) (hb : s.book.length < 8) {rain : Int} (hr : Wi rain s.w0 s.w1) {k : Nat} (hk : k < s.weeks.toNat) {n : Int} (hn : 0 ≤ n ∧ n ≤ 100) (h : TrueP (onlyS s rain k n)) : rain ∈ toldL s 0 := by
  obtain ⟨t, hT, _⟩ := (only_true hv hb hr hk hn).1 h
  rw [toldL_ok (told0 hv ht)]
  exact truth_mem hv hr hT
/-- With some rain of the first ones it comes about. -/
def orTo (s : Sp) (k : Nat) (n : Int) : Nat → Prop
  | 0 => False
  | j + 1 => orTo s k n j ∨ TrueP (onlyS s (s.w0 + (j : Int)) k n)
instance orDec (s : Sp) (k : Nat) (n : Int) : ∀ j, Decidable (orTo s k n j)
  | 0 => inferInstanceAs (Decidable False)
  | j + 1 => @instDecidableOr _ _ (orDec s k n j) (inferInstanceAs (Decidable (TrueP (onlyS s (s.w0 + (j : Int)) k n))))
theorem orTo_of {s : Sp} {k : Nat} {n : Int} : ∀ {j i : Nat}, i < j → TrueP (onlyS s (s.w0 + (i : Int)) k n) → orTo s k n j
  | 0, _, h, _ => absurd h (Nat.not_lt_zero _)
  | j + 1, i, h, ht => by
    by_cases e : i = j
    · subst e; exact .inr ht
    · exact .inl (orTo_of (by omega) ht)
/-- Both ends come about. -/
theorem ends_both {s : Sp} (hv : SpP s) (ht : TrueP s) (hb : s.book.length < 8) {k : Nat} (hk : k < s.weeks.toNat) : orTo s k (givesLo s k) (rnN s) ∧ orTo s k (givesHi s k) (rnN s) := by
  have e := told0 hv ht
  have g := gives_at e hk
  have g3 := gives_in e hk
  have hH := hv.1
  unfold HeadP at hH
  have a2 : toldA s 0 = lvsL s (baseL s) (rnsL s (baseL s)) := by rw [toldA, toldL_ok e]
  rw [a2] at g
  obtain ⟨⟨r1, t1, hr1, hT1, ht1⟩, ⟨r2, t2, hr2, hT2, ht2⟩⟩ := hull_at hv (base_len hv) ht k
  have key : ∀ r t n, Wi r s.w0 s.w1 → Tl s (baseL s) r t → t k = n → 0 ≤ n → n ≤ 100 → orTo s k n (rnN s) := fun r t n hr hT htk h0 h1 => by
    refine orTo_of (i := (r - s.w0).toNat) (by unfold rnN; omega) ?_
    rw [show s.w0 + ((r - s.w0).toNat : Int) = r by omega]
    exact (only_true hv hb hr hk ⟨h0, h1⟩).2 ⟨t, (truth_tl hv).2 hT, htk⟩
  exact ⟨key r1 t1 _ hr1 hT1 (by rw [ht1, g.1]) (by omega) (by omega), key r2 t2 _ hr2 hT2 (by rw [ht2, g.2]) (by omega) (by omega)⟩
/-! ### the truths that are told -/
theorem level_truth {s : Sp} (he : toldE s 0 = 0) {i : Nat} (hi : i < (toldA s 0).length) : Wi ((toldL s 0).getD i 0) s.w0 s.w1 ∧ Truth s ((toldL s 0).getD i 0) (fun w => G ((toldA s 0).getD i []) w) ∧ Truth s ((toldL s 0).getD i 0) (fun w => G ((toldA s 0).getD i []) (10 + w)) := by
  obtain ⟨hv, _, _⟩ := toldE_valid he
  have hl : i < (toldL s 0).length := by rw [← told_lens]; exact hi
  have hmem : (toldL s 0).getD i 0 ∈ toldL s 0 := by rw [List.getD_eq_getElem?_getD, List.getElem?_eq_getElem hl]; exact List.getElem_mem _
  have hA : (toldA s 0).getD i [] = lvL s (baseL s) ((toldL s 0).getD i 0) := by
    simp only [toldA, lvsL, List.getD_eq_getElem?_getD, List.getElem?_map, List.getElem?_eq_getElem hl, Option.map_some, Option.getD_some]
  have h1 := hmem
  rw [toldL_ok he] at h1
  obtain ⟨h2, h3⟩ := mem_rnsL.1 h1
  rw [← toldL_ok he] at h2 h3
  have h4 := lv_ends hv (base_len hv) h3
  rw [hA]
  exact ⟨h2, (truth_tl hv).2 h4.1, (truth_tl hv).2 h4.2⟩
theorem truth_to {s : Sp} {r : Int} {t : Nat → Int} (h : Truth s r t) {l : List Int} (hl : ∀ w, w < s.weeks.toNat → l.getD w 0 = t w) : TruthTo s r l s.weeks.toNat := fun w hw => by
  have h1 := h w hw
  rw [hl w hw]
  refine ⟨h1.1, h1.2.1, fun h0 => ?_⟩
  rw [hl (w - 1) (by omega)]
  exact h1.2.2 h0
theorem best_holds {s : Sp} (he : toldE s 0 = 0) : HoldsP s (bestR s (poorI s)) (bestL s 0 (poorI s)) ∧ HoldsP s (bestR s (richI s)) (bestL s 10 (richI s)) := by
  obtain ⟨⟨l1, l2⟩, _, _, h1, h2⟩ := best_facts he
  have k1 := level_truth he h1
  have k2 := level_truth he h2
  have f1 := (ends_facts he h1).2
  have f2 := (ends_facts he h2).2
  have r1 : bestR s (poorI s) = (toldL s 0).getD (poorI s) 0 := by rw [bestR, if_pos he]
  have r2 : bestR s (richI s) = (toldL s 0).getD (richI s) 0 := by rw [bestR, if_pos he]
  refine ⟨⟨⟨l1, by rw [r1]; exact k1.1⟩, ?_⟩, ⟨⟨l2, by rw [r2]; exact k2.1⟩, ?_⟩⟩
  · rw [r1]; exact truth_to k1.2.1 fun w hw => by rw [bestL, if_pos he]; exact (f1 w hw).1
  · rw [r2]; exact truth_to k2.2.2 fun w hw => by rw [bestL, if_pos he]; exact (f2 w hw).2
/-! ### the rains -/
theorem rnsTo_asc {s : Sp} {L : List Int} : ∀ k, (rnsTo s L k).Pairwise (· < ·) ∧ ∀ r ∈ rnsTo s L k, r < s.w0 + k
  | 0 => by simp [rnsTo]
  | k + 1 => by
    obtain ⟨h1, h2⟩ := rnsTo_asc (s := s) (L := L) k
    by_cases hb : lvB s L (s.w0 + k)
    · rw [rnsTo_yes hb]
      refine ⟨List.pairwise_append.2 ⟨h1, by simp, fun a ha b hb => ?_⟩, fun r hr => ?_⟩
      · have : b = s.w0 + (k : Int) := by simpa using hb
        have := h2 a ha; omega
      · rcases List.mem_append.1 hr with hr | hr
        · have := h2 r hr; omega
        · have : r = s.w0 + (k : Int) := by simpa using hr
          omega
    · rw [rnsTo_no hb]
      exact ⟨h1, fun r hr => by have := h2 r hr; omega⟩
theorem rains_asc {s : Sp} : ∀ k, 0 < k → k < (toldL s 0).length → (toldL s 0).getD (k - 1) 0 < (toldL s 0).getD k 0 := by
  have hp : (toldL s 0).Pairwise (· < ·) := by
    unfold toldL
    split
    · exact (rnsTo_asc _).1
    · exact List.Pairwise.nil
  intro k h0 hk
  have := List.pairwise_iff_getElem.1 hp (k - 1) k (by omega) hk (by omega)
  simpa [List.getD_eq_getElem?_getD, List.getElem?_eq_getElem hk, List.getElem?_eq_getElem (show k - 1 < (toldL s 0).length by omega)] using this
theorem oneR_facts {s : Sp} (he : toldE s 0 = 0) {r : Int} (hr : r ∈ toldL s 0) : Wi r s.w0 s.w1 ∧ SpP (oneR s r) ∧ TrueP (oneR s r) := by
  obtain ⟨hv, _, _⟩ := toldE_valid he
  have hH := hv.1
  rw [toldL_ok he] at hr
  obtain ⟨h1, h2⟩ := mem_rnsL.1 hr
  have hv' : SpP (oneR s r) := by
    refine ⟨?_, hv.2.1, hv.2.2⟩
    unfold HeadP at hH ⊢
    simp only [oneR]
    omega
  obtain ⟨t, hT⟩ := (lv_iff hv (base_len hv)).1 h2
  exact ⟨h1, hv', (true_iff hv').2 ⟨r, t, ⟨Int.le_refl _, Int.le_refl _⟩, (truth_tl hv).2 hT⟩⟩
end Go.S

/- One rain, and what holds: the walks. -/
namespace Go.Proofs.YtknflipongbngaaDoor
open Go.X Go.S Go.RowKit
def lnC (l : List Ln) : List Value := (l.map Ln.cells).flatten
theorem lnC_app (a b : List Ln) : lnC (a ++ b) = lnC a ++ lnC b := by simp [lnC]
abbrev rainP (rain : Int) : Ln → Bool := fun x => decide (Wi rain x.r0 x.r1)
theorem filt_yes {s : Sp} {rain : Int} {k : Nat} (h : k < s.book.length) (hc : Wi rain (s.book.getD k default).r0 (s.book.getD k default).r1) : (s.book.take (k + 1)).filter (rainP rain) = (s.book.take k).filter (rainP rain) ++ [s.book.getD k default] := by
  rw [take_snoc h, List.filter_append, List.filter_cons_of_pos (by simpa [rainP] using hc)]; simp
theorem filt_no {s : Sp} {rain : Int} {k : Nat} (h : k < s.book.length) (hc : ¬Wi rain (s.book.getD k default).r0 (s.book.getD k default).r1) : (s.book.take (k + 1)).filter (rainP rain) = (s.book.take k).filter (rainP rain) := by
  rw [take_snoc h, List.filter_append, List.filter_cons_of_neg (by simpa [rainP] using hc)]; simp
theorem takeBook {s : Sp} {k : Nat} (hk : k < s.book.length) : takeAt (bookC s) (0 + (k : Int).toNat * 5) 5 = some (s.book.getD k default).cells :=
  takeAt_of rfl fun j hj => by
    have h5 : (s.book.getD k default).cells.length = 5 := rfl
    have h := flatten_at (k := 5) (rows := s.book.map Ln.cells) (by intro q hq; obtain ⟨x, _, rfl⟩ := List.mem_map.1 hq; rfl) (i := k) (r := (s.book.getD k default).cells) (by simp [hk]) (j := j) (u := (s.book.getD k default).cells[j]) (List.getElem?_eq_getElem _)
    have h6 : (s.book.getD k default).cells[j]? = some (s.book.getD k default).cells[j] := List.getElem?_eq_getElem _
    rw [h6, ← h, Int.toNat_natCast]
    show ((s.book.map Ln.cells).flatten)[_]? = _
    congr 1; omega
theorem bookC_only (s : Sp) (rain wk n : Int) : bookC (onlyS s rain wk n) = lnC (onlyB s rain) ++ (Ln.mk rain rain wk n n).cells := by
  show lnC (onlyB s rain ++ [_]) = _
  rw [lnC_app]; simp [lnC]
set_option maxHeartbeats 2000000 in
theorem only_any (s : Sp) (bo ro : Option Addr) (bc rc : Nat) (rain week n : Int) (hb : s.book.length ≤ 1000) (hr : s.reads.length ≤ 1000000) (w : World) (hs : SpAt w s bo ro) :
    CallsR Tryd.prog 61 [.agg ⟨[.int .i64 s.weeks, .int .i64 s.most, .int .i64 s.fall, .int .i64 s.a0, .int .i64 s.a1, .int .i64 s.w0, .int .i64 s.w1, (.slice bo s.book.length bc), (.slice ro s.reads.length rc)]⟩, .int .i64 rain, .int .i64 week, .int .i64 n] w (SpR (onlyS s rain week n)) := by
  refine CallsR.of_SX (n := 48) (rs := [.cell 8 27]) Tryd.func61 rfl rfl rfl rfl ?_
  show SX _ _ _ ⟨[(0, .agg ⟨[.int .i64 s.weeks, .int .i64 s.most, .int .i64 s.fall, .int .i64 s.a0, .int .i64 s.a1, .int .i64 s.w0, .int .i64 s.w1, (.slice bo s.book.length bc), (.slice ro s.reads.length rc)]⟩), (1, .int .i64 rain), (2, .int .i64 week), (3, .int .i64 n)], [], []⟩
  refine SX.seq ?_
  refine SX.region ?_
  refine SXL.box rfl rfl ?_; intro b0
  refine SXL.alloc zp_27 ?_; intro b1
  refine SXL.nil ?_
  refine thenQ.normal ?_
  refine SX.seq ?_
  refine SX.region ?_
  refine SXL.loadNo 0 sh_27 rfl rfl rfl ?_
  refine SXL.callF (SpR s) fn_17 rfl (fun w hI => twin_any s bo ro bc rc (by omega) hr w (hs.inv hI)) ?_; rintro _ _ ⟨r1, r2, o1, o2, rfl, rfl⟩
  refine SXL.alloc zp_27 ?_; intro b4
  refine SXL.store 4 sz_27 rfl rfl rfl rfl rfl (show _ = some [.int .i64 s.weeks, .int .i64 s.most, .int .i64 s.fall, .int .i64 s.a0, .int .i64 s.a1, .int .i64 s.w0, .int .i64 s.w1, r1.val s.book.length, r2.val s.reads.length] from rfl) ?_
  refine SXL.nil ?_
  refine thenQ.normal ?_
  refine SX.seq ?_
  refine SX.region ?_
  refine SXL.move rfl ?_
  refine SXL.move rfl ?_
  refine SXL.call1 (.agg ⟨[.int .i64 rain, .int .i64 rain]⟩) fn_63 rfl (fun w hI => mkSpan_any _ _ _) ?_
  refine SXL.fieldAddr fp_27_4 rfl ?_
  refine SXL.store 4 sz_23 rfl rfl rfl rfl rfl (show _ = some [.int .i64 s.weeks, .int .i64 s.most, .int .i64 s.fall, .int .i64 s.a0, .int .i64 s.a1, .int .i64 rain, .int .i64 rain, r1.val s.book.length, r2.val s.reads.length] from rfl) ?_
  refine SXL.nil ?_
  refine thenQ.normal ?_
  refine SX.seq ?_
  refine SX.pad (Sl.nil.ent 61 []) rfl ?_
  refine SX.region ?_
  refine SXL.assign rfl ?_
  refine SXL.nil ?_
  refine thenQ.normal ?_
  refine SX.seq ?_
  refine SX.seq ?_
  refine SX.region ?_
  refine SXL.fieldAddr fp_27_5 rfl ?_
  refine SXL.load1o 4 sh_24 rfl rfl rfl ?_
  refine SXL.len is_24 rfl ?_
  refine SXL.move rfl ?_
  refine SXL.nil ?_
  refine thenQ.normal ?_
  refine SX.block ?_
  refine SX.loopW (α := Nat × Sl × Nat × List Value) [1, 2, 3, 8, 9, 20, 21] rfl (fun ⟨k, q, m, c⟩ => [(22, .int .i64 ((k : Int))), (10, q.val m)]) (fun ⟨k, q, m, c⟩ => [(b0, .cells ⟨[.int .i64 s.weeks, .int .i64 s.most, .int .i64 s.fall, .int .i64 s.a0, .int .i64 s.a1, .int .i64 s.w0, .int .i64 s.w1, (.slice bo s.book.length bc), (.slice ro s.reads.length rc)]⟩ 27 (0, 0)), (b1, .cells ⟨[.int .i64 0, .int .i64 0, .int .i64 0, .int .i64 0, .int .i64 0, .int .i64 0, .int .i64 0, .slice none 0 0, .slice none 0 0]⟩ 27 (0, 0)), r1.ent 61 (bookC s), r2.ent 54 (readsC s), (b4, .cells ⟨[.int .i64 s.weeks, .int .i64 s.most, .int .i64 s.fall, .int .i64 s.a0, .int .i64 s.a1, .int .i64 rain, .int .i64 rain, r1.val s.book.length, r2.val s.reads.length]⟩ 27 (0, 0)), q.ent 61 c]) (fun ⟨k, q, m, c⟩ => []) (fun ⟨k, q, m, c⟩ => k ≤ s.book.length ∧ q.Ok m 5 c ∧ c = lnC ((s.book.take k).filter (rainP rain)) ∧ m = ((s.book.take k).filter (rainP rain)).length) (fun ⟨k, q, m, c⟩ => s.book.length - k) (0, Sl.nil, 0, []) ⟨Nat.zero_le _, .none _, rfl, rfl⟩ ⟨rfl, rfl, trivial⟩ rfl ?_
  rintro ⟨k, q, m, c⟩ ⟨hk0, ho, rfl, hm2⟩
  have hfl : ((s.book.take k).filter (rainP rain)).length ≤ k := Nat.le_trans (List.length_filter_le _ _) (by rw [List.length_take]; omega)
  refine SX.seq ?_
  refine SX.region ?_
  refine SXL.lss rfl rfl ?_
  refine SXL.nil ?_
  refine thenQ.normal ?_
  refine SX.seq ?_
  refine SX.condP rfl (fun c1 => ?_) (fun c1 => ?_)
  · refine SX.skip ?_
    refine thenQ.normal ?_
    refine SX.seq ?_
    refine SX.block ?_
    refine SX.seq ?_
    have hk : k < s.book.length := by omega
    refine SX.region ?_
    refine SXL.indexSl 2 el_24 rfl rfl (by omega) rfl o1 ?_; intro b9 hb9
    refine SXL.loadSl 2 (vs := (s.book.getD k default).cells) sh_61 rfl hb9 rfl o1 (takeBook hk) ?_
    refine SXL.alloc zp_61 ?_; intro b6
    refine SXL.store 6 sz_61 rfl rfl rfl rfl rfl rfl ?_
    refine SXL.nil ?_
    refine thenQ.normal ?_
    refine SX.seq ?_
    refine SX.region ?_
    refine SXL.move rfl ?_
    refine SXL.fieldAddr fp_61_0 rfl ?_
    refine SXL.loadNo 6 sh_23 rfl rfl rfl ?_
    refine SXL.call1 (.bool (decide ((s.book.getD k default).r0 ≤ rain ∧ rain ≤ (s.book.getD k default).r1))) fn_58 rfl (fun w hI => inside_any rain _ _ _) ?_
    refine SXL.nil ?_
    refine thenQ.normal ?_
    refine SX.condP rfl (fun c29 => ?_) (fun c29 => ?_)
    · refine SX.region ?_
      refine SXL.move rfl ?_
      refine SXL.loadNo 6 sh_61 rfl rfl rfl ?_
      refine SXL.buildSlice et_24 zp_61 rfl rfl rfl rfl ?_; intro b7
      refine SXL.append 5 ap_24 rfl rfl ho rfl (.inr ⟨_, _, rfl, Mem.own (i := 7) rfl (takeAt_all _)⟩) rfl rfl ⟨by simp only [maxLen]; omega, by omega⟩ ?_; intro r_33 o_33
      refine SXL.assign rfl ?_
      refine SXL.nil ?_
      refine blockQ.normal ?_
      refine thenQ.normal ?_
      refine SX.region ?_
      refine SXL.add rfl rfl (by omega) ?_
      refine SXL.move rfl ?_
      refine SXL.nil ?_
      refine thenQ.normal ?_
      refine ⟨(k + 1, _, _, _), MeetsW.mkP _ ⟨rfl, rfl, trivial⟩ ⟨rfl, rfl, rfl, rfl, rfl, rfl, rfl, trivial⟩ rfl, ?_, (show s.book.length - (k + 1) < s.book.length - k by omega)⟩
      first
        | exact ⟨by omega, o_33, by rw [filt_yes hk c29, lnC_app]; simp [lnC, Ln.cells], by rw [filt_yes hk c29]; simp [hm2]⟩
        | exact ⟨by omega, ho, by rw [filt_no hk c29], by rw [filt_no hk c29]; exact hm2⟩
    · refine SX.skip ?_
      refine blockQ.normal ?_
      refine thenQ.normal ?_
      refine SX.region ?_
      refine SXL.add rfl rfl (by omega) ?_
      refine SXL.move rfl ?_
      refine SXL.nil ?_
      refine thenQ.normal ?_
      refine ⟨(k + 1, _, _, _), MeetsW.mkP _ ⟨rfl, rfl, trivial⟩ ⟨rfl, rfl, rfl, rfl, rfl, rfl, rfl, trivial⟩ rfl, ?_, (show s.book.length - (k + 1) < s.book.length - k by omega)⟩
      first
        | exact ⟨by omega, o_33, by rw [filt_yes hk c29, lnC_app]; simp [lnC, Ln.cells], by rw [filt_yes hk c29]; simp [hm2]⟩
        | exact ⟨by omega, ho, by rw [filt_no hk c29], by rw [filt_no hk c29]; exact hm2⟩
  · refine SX.exit ?_
    refine thenQ.exit ?_
    refine thenQ.exit ?_
    refine blockQ.exit ?_
    refine thenQ.normal ?_
    refine SX.seq ?_
    obtain rfl : k = s.book.length := by omega
    rw [List.take_length] at ho hm2 ⊢
    have hm3 : m = (onlyB s rain).length := hm2
    have hol := onlyB_len s rain
    refine SX.region ?_
    refine SXL.move rfl ?_
    refine SXL.move rfl ?_
    refine SXL.move rfl ?_
    refine SXL.call1 (.agg ⟨[.int .i64 rain, .int .i64 rain]⟩) fn_63 rfl (fun w hI => mkSpan_any _ _ _) ?_
    refine SXL.move rfl ?_
    refine SXL.move rfl ?_
    refine SXL.move rfl ?_
    refine SXL.call1 (.agg ⟨[.int .i64 n, .int .i64 n]⟩) fn_63 rfl (fun w hI => mkSpan_any _ _ _) ?_
    refine SXL.buildS pl_61 zp_61 rfl (show _ = some (Ln.mk rain rain week n n).cells from rfl) ?_
    refine SXL.buildSlice et_24 zp_61 rfl rfl rfl (show _ = some (Ln.mk rain rain week n n).cells from rfl) ?_; intro b6
    refine SXL.append 5 ap_24 rfl rfl ho rfl (.inr ⟨_, _, rfl, Mem.own (i := 6) rfl (takeAt_all _)⟩) rfl rfl ⟨by simp only [maxLen]; omega, by omega⟩ ?_; intro r_45 o_45
    refine SXL.fieldAddr fp_27_5 rfl ?_
    refine SXL.store 4 sz_24 rfl rfl rfl rfl rfl rfl ?_
    refine SXL.nil ?_
    refine thenQ.normal ?_
    refine SX.seq ?_
    refine SX.region ?_
    refine SXL.loadNo 4 sh_27 rfl rfl rfl ?_
    refine SXL.store 1 sz_27 rfl rfl rfl rfl rfl rfl ?_
    refine SXL.nil ?_
    refine thenQ.normal ?_
    refine SX.ret ?_
    refine retQ.sel [5, 3] rfl rfl ?_
    refine retQ.one (ResAt.cellNo 1 sh_27 rfl rfl rfl) ?_
    exact ⟨r_45, r2, by rw [bookC_only]; show r_45.Ok ((onlyB s rain) ++ [_]).length 5 _; rw [List.length_append, List.length_singleton, ← hm3]; exact o_45, o2, by show _ = spV (onlyS s rain week n) r_45 r2; simp only [spV]; rw [show (onlyS s rain week n).book.length = m + 1 from by show ((onlyB s rain) ++ [_]).length = _; rw [List.length_append, List.length_singleton, hm3]]; rfl, by rw [bookC_only]; rfl⟩
set_option maxHeartbeats 2000000 in
theorem holds_any (s : Sp) (bo ro : Option Addr) (bc rc : Nat) (hv : SpP s) (rain : Int) (l : List Int) (lo : Option Addr) (lc : Nat) (hh : HoldsP s rain l) (w : World) (hs : SpAt w s bo ro) (hl : RowsAt w lo 1 (ones l)) :
    CallsR Tryd.prog 62 [.agg ⟨[.int .i64 s.weeks, .int .i64 s.most, .int .i64 s.fall, .int .i64 s.a0, .int .i64 s.a1, .int .i64 s.w0, .int .i64 s.w1, (.slice bo s.book.length bc), (.slice ro s.reads.length rc)]⟩, .int .i64 rain, .slice lo l.length lc] w (fun v _ => v = .bool true) := by
  have hH := hv.1
  unfold HeadP at hH
  obtain ⟨⟨hl1, hwi⟩, htt⟩ := hh
  refine CallsR.of_SX (n := 96) (rs := [.tmp 6]) Tryd.func62 rfl rfl rfl rfl ?_
  show SX _ _ _ ⟨[(0, .agg ⟨[.int .i64 s.weeks, .int .i64 s.most, .int .i64 s.fall, .int .i64 s.a0, .int .i64 s.a1, .int .i64 s.w0, .int .i64 s.w1, (.slice bo s.book.length bc), (.slice ro s.reads.length rc)]⟩), (1, .int .i64 rain), (2, .slice lo l.length lc)], [], []⟩
  refine SX.seq ?_
  refine SX.region ?_
  refine SXL.box rfl rfl ?_; intro b0
  refine SXL.assign rfl ?_
  refine SXL.nil ?_
  refine thenQ.normal ?_
  refine SX.seq ?_
  refine SX.seq ?_
  refine SX.region ?_
  refine SXL.move rfl ?_
  refine SXL.len is_35 rfl ?_
  refine SXL.fieldAddr fp_27_0 rfl ?_
  refine SXL.load1o 0 sh_3 rfl rfl rfl ?_
  refine SXL.neqI rfl rfl ?_
  refine SXL.move rfl ?_
  apply SXL.orG 5
  case hl => exact rfl
  case hd => exact rfl
  case hg => exact rfl
  case ht =>
    intro c22
    refine SXL.pass rfl rfl rfl ?_
    refine SXL.pass rfl rfl rfl ?_
    refine SXL.pass rfl rfl rfl ?_
    refine SXL.pass rfl rfl rfl ?_
    refine SXL.pass rfl rfl rfl ?_
    exact SXL.nil (segQ.mk (.skip rfl (.skip rfl (.skip rfl (.skip rfl (.skip rfl (.skip rfl (EnvSub.refl _))))))) rfl rfl rfl)
  case hf =>
    intro c22
    refine SXL.move rfl ?_
    refine SXL.fieldAddr fp_27_4 rfl ?_
    refine SXL.loadNo 0 sh_23 rfl rfl rfl ?_
    refine SXL.call1 (.bool (decide (s.w0 ≤ rain ∧ rain ≤ s.w1))) fn_58 rfl (fun w hI => inside_any rain _ _ _) ?_
    refine SXL.not rfl ?_
    exact SXL.nil (segQ.mk (.skip rfl (.skip rfl (.skip rfl (.skip rfl (.skip rfl (.skip rfl (EnvSub.refl _))))))) rfl rfl ⟨rfl, rfl⟩)
  refine SXL.nil ?_
  refine thenQ.normal ?_
  refine SX.condP rfl (fun c22 => ?_) (fun c22 => ?_)
  · exfalso; omega
  refine SX.skip ?_
  refine thenQ.normal ?_
  refine SX.seq ?_
  refine SX.seq ?_
  refine SX.region ?_
  refine SXL.move rfl ?_
  refine SXL.len is_35 rfl ?_
  refine SXL.move rfl ?_
  refine SXL.nil ?_
  refine thenQ.normal ?_
  refine SX.block ?_
  refine SX.loopG (α := Nat) [1, 2, 3, 6, 23, 24] rfl (fun k => [(25, .int .i64 ((k : Int)))]) (fun k => []) (fun k => k ≤ l.length) (fun k => l.length - k) 0 (Nat.zero_le _) ⟨rfl, trivial⟩ rfl ?_
  rintro k hk0
  refine SX.seq ?_
  refine SX.region ?_
  refine SXL.lss rfl rfl ?_
  refine SXL.nil ?_
  refine thenQ.normal ?_
  refine SX.seq ?_
  refine SX.condP rfl (fun c3 => ?_) (fun c3 => ?_)
  · refine SX.skip ?_
    refine thenQ.normal ?_
    refine SX.seq ?_
    refine SX.block ?_
    refine SX.seq ?_
    have hk : k < l.length := by omega
    have hk1 : k < s.weeks.toNat := by omega
    obtain ⟨b, o, ha, hm⟩ := oneI hl hk
    obtain ⟨⟨hn, hok⟩, hbk, hst⟩ := htt k hk1
    refine SX.region ?_
    refine SXL.move rfl ?_
    refine SXL.indexR el_35 rfl rfl ha (by omega) ?_
    refine SXL.load1 sh_3 rfl (hm _) ?_
    refine SXL.assign rfl ?_
    refine SXL.assign rfl ?_
    refine SXL.nil ?_
    refine thenQ.normal ?_
    refine SX.seq ?_
    refine SX.seq ?_
    refine SX.draw 40 (by kernel_rfl) (by kernel_rfl) {} ?_
    refine SXA.take 0 40 rfl (by kernel_rfl) rfl ?_
    refine SXL.move rfl ?_
    refine SXL.lss rfl rfl ?_
    refine SXL.move rfl ?_
    apply SXL.orG 4
    case hl => exact rfl
    case hd => exact rfl
    case hg => exact rfl
    case ht =>
      intro g4
      refine SXL.pass rfl rfl rfl ?_
      refine SXL.pass rfl rfl rfl ?_
      refine SXL.pass rfl rfl rfl ?_
      refine SXL.pass rfl rfl rfl ?_
      exact SXL.nil (segQ.mk (.skip rfl (.skip rfl (.skip rfl (.skip rfl (.skip rfl (EnvSub.refl _)))))) rfl rfl rfl)
    case hf =>
      intro g4
      refine SXL.move rfl ?_
      refine SXL.fieldAddr fp_27_1 rfl ?_
      refine SXL.load1o 0 sh_3 rfl rfl rfl ?_
      refine SXL.gtr rfl rfl ?_
      exact SXL.nil (segQ.mk (.skip rfl (.skip rfl (.skip rfl (.skip rfl (.skip rfl (EnvSub.refl _)))))) rfl rfl ⟨rfl, rfl⟩)
    refine SXL.move rfl ?_
    apply SXL.orG 23
    case hl => exact rfl
    case hd => exact rfl
    case hg => exact rfl
    case ht =>
      intro g5
      refine SXL.pass rfl rfl rfl ?_
      refine SXL.pass rfl rfl rfl ?_
      refine SXL.pass rfl rfl rfl ?_
      refine SXL.pass rfl rfl rfl ?_
      refine SXL.pass rfl rfl rfl ?_
      refine SXL.pass rfl rfl rfl ?_
      refine SXL.pass rfl rfl rfl ?_
      refine SXL.pass rfl rfl rfl ?_
      refine SXL.pass rfl rfl rfl ?_
      refine SXL.pass rfl rfl rfl ?_
      refine SXL.pass rfl rfl rfl ?_
      refine SXL.pass rfl rfl rfl ?_
      refine SXL.pass rfl rfl rfl ?_
      refine SXL.pass rfl rfl rfl ?_
      refine SXL.pass rfl rfl rfl ?_
      refine SXL.pass rfl rfl rfl ?_
      refine SXL.pass rfl rfl rfl ?_
      refine SXL.pass rfl rfl rfl ?_
      refine SXL.pass rfl rfl rfl ?_
      refine SXL.pass rfl rfl rfl ?_
      refine SXL.pass rfl rfl rfl ?_
      refine SXL.pass rfl rfl rfl ?_
      refine SXL.pass rfl rfl rfl ?_
      exact SXL.nil (segQ.mk (.skip rfl (.skip rfl (.skip rfl (.skip rfl (.skip rfl (.skip rfl (.skip rfl (.skip rfl (.skip rfl (.skip rfl (.skip rfl (.skip rfl (.skip rfl (.skip rfl (.skip rfl (.skip rfl (.skip rfl (.skip rfl (.skip rfl (.skip rfl (.skip rfl (.skip rfl (.skip rfl (.skip rfl (EnvSub.refl _))))))))))))))))))))))))) rfl rfl rfl)
    case hf =>
      intro g5
      refine SXL.move rfl ?_
      refine SXL.gtr rfl rfl ?_
      refine SXL.move rfl ?_
      apply SXL.andG 19
      case hl => exact rfl
      case hd => exact rfl
      case hg => exact rfl
      case ht =>
        intro g61
        obtain ⟨b2, o2, ha2, hm2⟩ := oneI hl (i := k - 1) (by omega)
        have hji : ((k : Int) - 1).toNat = k - 1 := by omega
        have hprev := (htt (k - 1) (by omega)).1.1
        have hst1 := hst (by omega)
        refine SXL.move rfl ?_
        refine SXL.move rfl ?_
        refine SXL.move rfl ?_
        refine SXL.sub rfl rfl (by omega) ?_
        refine SXL.indexR el_35 rfl rfl ha2 (by omega) ?_
        refine SXL.load1 sh_3 rfl (by rw [hji]; exact hm2 _) ?_
        refine SXL.gtr rfl rfl ?_
        refine SXL.move rfl ?_
        apply SXL.orG 10
        case hl => exact rfl
        case hd => exact rfl
        case hg => exact rfl
        case ht =>
          intro g7
          refine SXL.pass rfl rfl rfl ?_
          refine SXL.pass rfl rfl rfl ?_
          refine SXL.pass rfl rfl rfl ?_
          refine SXL.pass rfl rfl rfl ?_
          refine SXL.pass rfl rfl rfl ?_
          refine SXL.pass rfl rfl rfl ?_
          refine SXL.pass rfl rfl rfl ?_
          refine SXL.pass rfl rfl rfl ?_
          refine SXL.pass rfl rfl rfl ?_
          refine SXL.pass rfl rfl rfl ?_
          exact SXL.nil (segQ.mk (.skip rfl (.skip rfl (.skip rfl (.skip rfl (.skip rfl (.skip rfl (.skip rfl (.skip rfl (.skip rfl (.skip rfl (.skip rfl (EnvSub.refl _)))))))))))) rfl rfl rfl)
        case hf =>
          intro g7
          refine SXL.move rfl ?_
          refine SXL.move rfl ?_
          refine SXL.move rfl ?_
          refine SXL.sub rfl rfl (by omega) ?_
          refine SXL.indexR el_35 rfl rfl ha2 (by omega) ?_
          refine SXL.load1 sh_3 rfl (by rw [hji]; exact hm2 _) ?_
          refine SXL.fieldAddr fp_27_2 rfl ?_
          refine SXL.load1o 0 sh_3 rfl rfl rfl ?_
          refine SXL.sub rfl rfl (by omega) ?_
          refine SXL.lss rfl rfl ?_
          exact SXL.nil (segQ.mk (.skip rfl (.skip rfl (.skip rfl (.skip rfl (.skip rfl (.skip rfl (.skip rfl (.skip rfl (.skip rfl (.skip rfl (.skip rfl (EnvSub.refl _)))))))))))) rfl rfl ⟨rfl, rfl⟩)
        exact SXL.nil (segQ.mk (.skip rfl (.skip rfl (.skip rfl (.skip rfl (.skip rfl (.skip rfl (.skip rfl (.skip rfl (.skip rfl (EnvSub.refl _)))))))))) rfl rfl ⟨rfl, rfl⟩)
      case hf =>
        intro g61
        refine SXL.pass rfl rfl rfl ?_
        refine SXL.pass rfl rfl rfl ?_
        refine SXL.pass rfl rfl rfl ?_
        refine SXL.pass rfl rfl rfl ?_
        refine SXL.pass rfl rfl rfl ?_
        refine SXL.pass rfl rfl rfl ?_
        refine SXL.pass rfl rfl rfl ?_
        refine SXL.pass rfl rfl rfl ?_
        refine SXL.pass rfl rfl rfl ?_
        refine SXL.pass rfl rfl rfl ?_
        refine SXL.pass rfl rfl rfl ?_
        refine SXL.pass rfl rfl rfl ?_
        refine SXL.pass rfl rfl rfl ?_
        refine SXL.pass rfl rfl rfl ?_
        refine SXL.pass rfl rfl rfl ?_
        refine SXL.pass rfl rfl rfl ?_
        refine SXL.pass rfl rfl rfl ?_
        refine SXL.pass rfl rfl rfl ?_
        refine SXL.pass rfl rfl rfl ?_
        exact SXL.nil (segQ.mk (.skip rfl (.skip rfl (.skip rfl (.skip rfl (.skip rfl (.skip rfl (.skip rfl (.skip rfl (.skip rfl (.skip rfl (.skip rfl (.skip rfl (.skip rfl (.skip rfl (.skip rfl (.skip rfl (.skip rfl (.skip rfl (.skip rfl (.skip rfl (EnvSub.refl _))))))))))))))))))))) rfl rfl rfl)
      exact SXL.nil (segQ.mk (.skip rfl (.skip rfl (.skip rfl (.skip rfl (EnvSub.refl _))))) rfl rfl ⟨rfl, rfl⟩)
    refine SXL.move rfl ?_
    apply SXL.orG 5
    case hl => exact rfl
    case hd => exact rfl
    case hg => exact rfl
    case ht =>
      intro c69
      refine SXL.pass rfl rfl rfl ?_
      refine SXL.pass rfl rfl rfl ?_
      refine SXL.pass rfl rfl rfl ?_
      refine SXL.pass rfl rfl rfl ?_
      refine SXL.pass rfl rfl rfl ?_
      exact SXL.nil (segQ.mk (.skip rfl (.skip rfl (.skip rfl (.skip rfl (.skip rfl (.skip rfl (EnvSub.refl _))))))) rfl rfl rfl)
    case hf =>
      intro c69
      refine SXL.loadNo 0 sh_27 rfl rfl rfl ?_
      refine SXL.move rfl ?_
      refine SXL.move rfl ?_
      refine SXL.call1 (.bool (decide (OkP s k (l.getD k 0)))) fn_112 rfl (fun w hI => fits_any s bo ro bc rc k hk1 hv (l.getD k 0) (by omega) _ (hs.inv hI)) ?_
      refine SXL.not rfl ?_
      exact SXL.nil (segQ.mk (.skip rfl (.skip rfl (.skip rfl (.skip rfl (.skip rfl (.skip rfl (EnvSub.refl _))))))) rfl rfl ⟨rfl, rfl⟩)
    refine SXL.nil ⟨rfl, rfl, rfl, ?_⟩
    refine SXA.done (by kernel_rfl) ?_
    refine SXL.nil ?_
    refine thenQ.normal ?_
    have hst2 : 0 < k → l.getD (k - 1) 0 - s.fall ≤ l.getD k 0 ∧ l.getD k 0 ≤ l.getD (k - 1) 0 := hst
    have hji2 : 0 < k → ((k : Int) - 1).toNat = k - 1 := fun h => by omega
    refine SX.condP rfl (fun c69 => ?_) (fun c69 => ?_)
    · exfalso; exact c69.elim (fun h => by omega) (fun h => h hok)
    refine SX.skip ?_
    refine thenQ.normal ?_
    refine SX.seq ?_
    refine SX.region ?_
    refine SXL.fieldAddr fp_27_5 rfl ?_
    refine SXL.load1o 0 sh_24 rfl rfl rfl ?_
    refine SXL.len is_24 rfl ?_
    refine SXL.move rfl ?_
    refine SXL.nil ?_
    refine thenQ.normal ?_
    refine SX.block ?_
    refine SX.loopG (α := Nat) [1, 2, 3, 6, 7, 8, 23, 24, 25, 71, 72] rfl (fun k3 => [(73, .int .i64 ((k3 : Int)))]) (fun k3 => []) (fun k3 => k3 ≤ s.book.length) (fun k3 => s.book.length - k3) 0 (Nat.zero_le _) ⟨rfl, trivial⟩ rfl ?_
    rintro k3 hk30
    refine SX.seq ?_
    refine SX.region ?_
    refine SXL.lss rfl rfl ?_
    refine SXL.nil ?_
    refine thenQ.normal ?_
    refine SX.seq ?_
    refine SX.condP rfl (fun c10 => ?_) (fun c10 => ?_)
    · refine SX.skip ?_
      refine thenQ.normal ?_
      refine SX.seq ?_
      refine SX.block ?_
      refine SX.seq ?_
      have hk3 : k3 < s.book.length := by omega
      obtain ⟨b3, o3, ha3, hm3⟩ := hs.line hk3
      refine SX.region ?_
      refine SXL.indexR el_24 rfl rfl ha3 (by omega) ?_
      refine SXL.loadN sh_61 rfl (hm3 _) rfl ?_
      refine SXL.alloc zp_61 ?_; intro b1
      refine SXL.store 1 sz_61 rfl rfl rfl rfl rfl rfl ?_
      refine SXL.nil ?_
      refine thenQ.normal ?_
      refine SX.seq ?_
      refine SX.region ?_
      refine SXL.fieldAddr fp_61_1 rfl ?_
      refine SXL.load1o 1 sh_3 rfl rfl rfl ?_
      refine SXL.move rfl ?_
      refine SXL.eqlI rfl rfl ?_
      refine SXL.move rfl ?_
      apply SXL.andG 4
      case hl => exact rfl
      case hd => exact rfl
      case hg => exact rfl
      case ht =>
        intro g11
        refine SXL.move rfl ?_
        refine SXL.fieldAddr fp_61_0 rfl ?_
        refine SXL.loadNo 1 sh_23 rfl rfl rfl ?_
        refine SXL.call1 (.bool (decide (s.book[k3].r0 ≤ rain ∧ rain ≤ s.book[k3].r1))) fn_58 rfl (fun w hI => inside_any rain _ _ _) ?_
        exact SXL.nil (segQ.mk (.skip rfl (.skip rfl (.skip rfl (.skip rfl (.skip rfl (EnvSub.refl _)))))) rfl rfl ⟨rfl, rfl⟩)
      case hf =>
        intro g11
        refine SXL.pass rfl rfl rfl ?_
        refine SXL.pass rfl rfl rfl ?_
        refine SXL.pass rfl rfl rfl ?_
        refine SXL.pass rfl rfl rfl ?_
        exact SXL.nil (segQ.mk (.skip rfl (.skip rfl (.skip rfl (.skip rfl (.skip rfl (EnvSub.refl _)))))) rfl rfl rfl)
      refine SXL.move rfl ?_
      apply SXL.andG 5
      case hl => exact rfl
      case hd => exact rfl
      case hg => exact rfl
      case ht =>
        intro c93
        refine SXL.move rfl ?_
        refine SXL.fieldAddr fp_61_2 rfl ?_
        refine SXL.loadNo 1 sh_23 rfl rfl rfl ?_
        refine SXL.call1 (.bool (decide (s.book[k3].g0 ≤ (l.getD k 0) ∧ (l.getD k 0) ≤ s.book[k3].g1))) fn_58 rfl (fun w hI => inside_any (l.getD k 0) _ _ _) ?_
        refine SXL.not rfl ?_
        exact SXL.nil (segQ.mk (.skip rfl (.skip rfl (.skip rfl (.skip rfl (.skip rfl (.skip rfl (EnvSub.refl _))))))) rfl rfl ⟨rfl, rfl⟩)
      case hf =>
        intro c93
        refine SXL.pass rfl rfl rfl ?_
        refine SXL.pass rfl rfl rfl ?_
        refine SXL.pass rfl rfl rfl ?_
        refine SXL.pass rfl rfl rfl ?_
        refine SXL.pass rfl rfl rfl ?_
        exact SXL.nil (segQ.mk (.skip rfl (.skip rfl (.skip rfl (.skip rfl (.skip rfl (.skip rfl (EnvSub.refl _))))))) rfl rfl rfl)
      refine SXL.nil ?_
      refine thenQ.normal ?_
      refine SX.condP rfl (fun c93 => ?_) (fun c93 => ?_)
      · exfalso; exact c93.2 (hbk _ (List.getElem_mem hk3) c93.1.1 c93.1.2)
      refine SX.skip ?_
      refine blockQ.normal ?_
      refine thenQ.normal ?_
      refine SX.region ?_
      refine SXL.add rfl rfl (by omega) ?_
      refine SXL.move rfl ?_
      refine SXL.nil ?_
      refine thenQ.normal ?_
      refine ⟨k3 + 1, Meets.mk _ ⟨rfl, trivial⟩ ⟨rfl, rfl, rfl, rfl, rfl, rfl, rfl, rfl, rfl, rfl, rfl, trivial⟩ rfl, (by omega), (by omega)⟩
    · refine SX.exit ?_
      refine thenQ.exit ?_
      refine thenQ.exit ?_
      refine blockQ.exit ?_
      refine blockQ.normal ?_
      refine thenQ.normal ?_
      refine SX.region ?_
      refine SXL.add rfl rfl (by omega) ?_
      refine SXL.move rfl ?_
      refine SXL.nil ?_
      refine thenQ.normal ?_
      refine ⟨k + 1, Meets.mk _ ⟨rfl, trivial⟩ ⟨rfl, rfl, rfl, rfl, rfl, rfl, trivial⟩ rfl, (by omega), (by omega)⟩
  · refine SX.exit ?_
    refine thenQ.exit ?_
    refine thenQ.exit ?_
    refine blockQ.exit ?_
    refine thenQ.normal ?_
    refine SX.seq ?_
    refine SX.region ?_
    refine SXL.assign rfl ?_
    refine SXL.nil ?_
    refine thenQ.normal ?_
    refine SX.ret ?_
    refine retQ.dead [] rfl ?_
    refine retQ.one (ResAt.tmp rfl) ?_
    rfl
end Go.Proofs.YtknflipongbngaaDoor

/- SpringEnds: the walk. -/
namespace Go.Proofs.YtknflipongbngaaDoor
open Go.X Go.S Go.RowKit
set_option maxHeartbeats 8000000 in
theorem ends_law (s : Sp) (bo ro : Option Addr) (bc rc : Nat) (which : Int) (hw1 : 0 ≤ which ∧ which ≤ 255) (w : World) (hg : Gl w) (hs : SpAt w s bo ro) :
    CallsR Tryd.prog 8 [.agg ⟨[.int .i64 s.weeks, .int .i64 s.most, .int .i64 s.fall, .int .i64 s.a0, .int .i64 s.a1, .int .i64 s.w0, .int .i64 s.w1, (.slice bo s.book.length bc), (.slice ro s.reads.length rc)]⟩, .int .u8 which] w (fun v _ => v = .bool true) := by
  refine CallsR.of_SX (n := 239) (rs := [.tmp 4]) Tryd.func8 rfl rfl rfl rfl ?_
  show SX _ _ _ ⟨[(0, .agg ⟨[.int .i64 s.weeks, .int .i64 s.most, .int .i64 s.fall, .int .i64 s.a0, .int .i64 s.a1, .int .i64 s.w0, .int .i64 s.w1, (.slice bo s.book.length bc), (.slice ro s.reads.length rc)]⟩), (1, .int .u8 which)], [], []⟩
  refine SX.seq ?_
  refine SX.region ?_
  refine SXL.box rfl rfl ?_; intro b0
  refine SXL.assign rfl ?_
  refine SXL.nil ?_
  refine thenQ.normal ?_
  refine SX.seq ?_
  refine SX.region ?_
  refine SXL.call1 (.bool (decide (True))) fn_54 rfl (fun w hI => (alive_any w (hg.inv hI)).eqv rfl) ?_
  refine SXL.assign rfl ?_
  refine SXL.nil ?_
  refine thenQ.normal ?_
  refine SX.seq ?_
  refine SX.seq ?_
  refine SX.region ?_
  refine SXL.loadNo 0 sh_27 rfl rfl rfl ?_
  refine SXL.call1 (.bool (decide (¬((30 : Int) < (s.book.length : Int) ∨ (30 : Int) < (s.reads.length : Int)) ∧ SpP s))) fn_55 rfl (fun w hI => ready_any s bo ro bc rc _ (hs.inv hI)) ?_
  refine SXL.not rfl ?_
  refine SXL.move rfl ?_
  apply SXL.orG 4
  case hl => exact rfl
  case hd => exact rfl
  case hg => exact rfl
  case ht =>
    intro g1
    refine SXL.pass rfl rfl rfl ?_
    refine SXL.pass rfl rfl rfl ?_
    refine SXL.pass rfl rfl rfl ?_
    refine SXL.pass rfl rfl rfl ?_
    exact SXL.nil (segQ.mk (.skip rfl (.skip rfl (.skip rfl (.skip rfl (.skip rfl (EnvSub.refl _)))))) rfl rfl rfl)
  case hf =>
    intro g1
    refine SXL.fieldAddr fp_27_5 rfl ?_
    refine SXL.load1o 0 sh_24 rfl rfl rfl ?_
    refine SXL.len is_24 rfl ?_
    refine SXL.geq rfl rfl ?_
    exact SXL.nil (segQ.mk (.skip rfl (.skip rfl (.skip rfl (.skip rfl (.skip rfl (EnvSub.refl _)))))) rfl rfl ⟨rfl, rfl⟩)
  refine SXL.move rfl ?_
  apply SXL.orG 2
  case hl => exact rfl
  case hd => exact rfl
  case hg => exact rfl
  case ht =>
    intro c42
    refine SXL.pass rfl rfl rfl ?_
    refine SXL.pass rfl rfl rfl ?_
    exact SXL.nil (segQ.mk (.skip rfl (.skip rfl (.skip rfl (EnvSub.refl _)))) rfl rfl rfl)
  case hf =>
    intro c42
    refine SXL.move rfl ?_
    refine SXL.not rfl ?_
    exact SXL.nil (segQ.mk (.skip rfl (.skip rfl (.skip rfl (EnvSub.refl _)))) rfl rfl ⟨rfl, rfl⟩)
  refine SXL.nil ?_
  refine thenQ.normal ?_
  refine SX.condP rfl (fun c42 => ?_) (fun c42 => ?_)
  · refine SX.seq ?_
    refine SX.region ?_
    refine SXL.move rfl ?_
    refine SXL.assign rfl ?_
    refine SXL.nil ?_
    refine thenQ.normal ?_
    refine SX.ret ?_
    refine thenQ.ret ?_
    refine retQ.dead [] rfl ?_
    refine retQ.one (ResAt.tmp rfl) ?_
    exact congrArg Value.bool (decide_eq_true trivial)
  · refine SX.skip ?_
    refine thenQ.normal ?_
    refine SX.seq ?_
    have hpre : (¬((30 : Int) < (s.book.length : Int) ∨ (30 : Int) < (s.reads.length : Int)) ∧ SpP s) ∧ s.book.length < 8 := by
          by_cases h1 : ¬((30 : Int) < (s.book.length : Int) ∨ (30 : Int) < (s.reads.length : Int)) ∧ SpP s
          · by_cases h2 : s.book.length < 8
            · exact ⟨h1, h2⟩
            · exact absurd (.inl (.inr (by omega))) c42
          · exact absurd (.inl (.inl h1)) c42
    obtain ⟨⟨hgr, hv⟩, hb8⟩ := hpre
    have hH := hv.1
    unfold HeadP at hH
    obtain ⟨k, hkw⟩ : ∃ k : Nat, which % s.weeks = k := ⟨(which % s.weeks).toNat, (Int.toNat_of_nonneg (Int.emod_nonneg _ (by omega))).symm⟩
    have hk : k < s.weeks.toNat := by have := Int.emod_lt_of_pos which (b := s.weeks) (by omega); omega
    have hE0 : toldE s k = toldE s 0 ∧ (toldE s k = 0 ↔ TrueP s) ∧ (toldE s k = 0 ∨ toldE s k = 8) := by
          by_cases ht : TrueP s
          · have e1 := told_of_true hv ht hk
            have e2 := told0 hv ht
            exact ⟨by omega, ⟨fun _ => ht, fun _ => e1⟩, .inl e1⟩
          · have e1 : toldE s k = 8 := toldE_none hv (by omega) (Decidable.not_not.1 ht)
            have e2 : toldE s 0 = 8 := toldE_none hv (by omega) (Decidable.not_not.1 ht)
            exact ⟨by omega, ⟨fun h => by omega, fun h => absurd h ht⟩, .inr e1⟩
    obtain ⟨hEq, hTiff, hor⟩ := hE0
    refine SX.region ?_
    refine SXL.move rfl ?_
    refine SXL.cv cv_5_3 rfl (by omega) ?_
    refine SXL.fieldAddr fp_27_0 rfl ?_
    refine SXL.load1o 0 sh_3 rfl rfl rfl ?_
    refine SXL.remE rfl rfl (by omega) hkw ?_
    refine SXL.assign rfl ?_
    refine SXL.nil ?_
    refine thenQ.normal ?_
    refine SX.seq ?_
    refine SX.region ?_
    refine SXL.loadNo 0 sh_27 rfl rfl rfl ?_
    refine SXL.move rfl ?_
    refine SXL.call1 (.tuple ⟨[.agg ⟨[.int .i64 ((givesLo s (k : Int))), .int .i64 ((givesHi s (k : Int)))]⟩, .int .i64 (toldE s (k : Int))]⟩) fn_22 rfl (fun w hI => sgives_any s bo ro bc rc (k : Int) (by omega) (by omega) _ (hg.inv hI) (hs.inv hI)) ?_
    refine SXL.move rfl ?_
    refine SXL.extract rfl rfl ?_
    refine SXL.extract rfl rfl ?_
    refine SXL.alloc zp_23 ?_; intro b1
    refine SXL.store 1 sz_23 rfl rfl rfl rfl rfl (show _ = some [.int .i64 (givesLo s (k : Int)), .int .i64 (givesHi s (k : Int))] from rfl) ?_
    refine SXL.assign rfl ?_
    refine SXL.nil ?_
    refine thenQ.normal ?_
    refine SX.seq ?_
    refine SX.region ?_
    refine SXL.loadNo 0 sh_27 rfl rfl rfl ?_
    refine SXL.callF (IsR2 (toldL s 0) (toldE s 0)) fn_20 rfl (fun w hI => srains_any s bo ro bc rc (by omega) (by omega) w (hg.inv hI) (hs.inv hI)) ?_; rintro _ _ ⟨q0, u0, rfl, rfl⟩
    refine SXL.move rfl ?_
    refine SXL.extract rfl rfl ?_
    refine SXL.extract rfl rfl ?_
    refine SXL.assign rfl ?_
    refine SXL.assign rfl ?_
    refine SXL.nil ?_
    refine thenQ.normal ?_
    refine SX.seq ?_
    refine SX.seq ?_
    refine SX.region ?_
    refine SXL.move rfl ?_
    refine SXL.move rfl ?_
    refine SXL.neqI rfl rfl ?_
    refine SXL.move rfl ?_
    apply SXL.orG 5
    case hl => exact rfl
    case hd => exact rfl
    case hg => exact rfl
    case ht =>
      intro c69
      refine SXL.pass rfl rfl rfl ?_
      refine SXL.pass rfl rfl rfl ?_
      refine SXL.pass rfl rfl rfl ?_
      refine SXL.pass rfl rfl rfl ?_
      refine SXL.pass rfl rfl rfl ?_
      exact SXL.nil (segQ.mk (.skip rfl (.skip rfl (.skip rfl (.skip rfl (.skip rfl (.skip rfl (EnvSub.refl _))))))) rfl rfl rfl)
    case hf =>
      intro c69
      refine SXL.move rfl ?_
      refine SXL.eqlI rfl rfl ?_
      refine SXL.loadNo 0 sh_27 rfl rfl rfl ?_
      refine SXL.call1 (.bool (decide (TrueP s))) fn_60 rfl (fun w hI => true_any s bo ro bc rc hv _ (hs.inv hI)) ?_
      refine SXL.neqB (by kernel_rfl) rfl rfl ?_
      exact SXL.nil (segQ.mk (.skip rfl (.skip rfl (.skip rfl (.skip rfl (.skip rfl (.skip rfl (EnvSub.refl _))))))) rfl rfl ⟨rfl, rfl⟩)
    refine SXL.nil ?_
    refine thenQ.normal ?_
    refine SX.condP rfl (fun c69 => ?_) (fun c69 => ?_)
    · exfalso; exact c69.elim (fun h => h hEq) (fun h => h hTiff)
    refine SX.skip ?_
    refine thenQ.normal ?_
    refine SX.seq ?_
    refine SX.seq ?_
    refine SX.region ?_
    refine SXL.move rfl ?_
    refine SXL.neqI rfl rfl ?_
    refine SXL.nil ?_
    refine thenQ.normal ?_
    refine SX.condP rfl (fun c71 => ?_) (fun c71 => ?_)
    · refine SX.seq ?_
      refine SX.region ?_
      refine SXL.move rfl ?_
      refine SXL.move rfl ?_
      apply SXL.andG 2
      case hl => exact rfl
      case hd => exact rfl
      case hg => exact rfl
      case ht =>
        intro g7
        refine SXL.move rfl ?_
        refine SXL.eqlI rfl rfl ?_
        exact SXL.nil (segQ.mk (.skip rfl (.skip rfl (.skip rfl (EnvSub.refl _)))) rfl rfl ⟨rfl, rfl⟩)
      case hf =>
        intro g7
        refine SXL.pass rfl rfl rfl ?_
        refine SXL.pass rfl rfl rfl ?_
        exact SXL.nil (segQ.mk (.skip rfl (.skip rfl (.skip rfl (EnvSub.refl _)))) rfl rfl rfl)
      refine SXL.assign rfl ?_
      refine SXL.nil ?_
      refine thenQ.normal ?_
      refine SX.ret ?_
      refine thenQ.ret ?_
      refine retQ.dead [] rfl ?_
      refine retQ.one (ResAt.tmp rfl) ?_
      exact congrArg Value.bool (decide_eq_true ⟨trivial, hor.resolve_left c71⟩)
    · refine SX.skip ?_
      refine thenQ.normal ?_
      refine SX.seq ?_
      refine SX.seq ?_
      have hek : toldE s k = 0 := Decidable.not_not.1 c71
      have ht : TrueP s := hTiff.1 hek
      have hTo : toldE s 0 = 0 := by omega
      have hin := gives_in hTo hk
      have hT21 := toldL_max hTo
      refine SX.region ?_
      refine SXL.fieldAddr fp_23_0 rfl ?_
      refine SXL.load1o 1 sh_3 rfl rfl rfl ?_
      refine SXL.lss rfl rfl ?_
      refine SXL.move rfl ?_
      apply SXL.orG 5
      case hl => exact rfl
      case hd => exact rfl
      case hg => exact rfl
      case ht =>
        intro g8
        refine SXL.pass rfl rfl rfl ?_
        refine SXL.pass rfl rfl rfl ?_
        refine SXL.pass rfl rfl rfl ?_
        refine SXL.pass rfl rfl rfl ?_
        refine SXL.pass rfl rfl rfl ?_
        exact SXL.nil (segQ.mk (.skip rfl (.skip rfl (.skip rfl (.skip rfl (.skip rfl (.skip rfl (EnvSub.refl _))))))) rfl rfl rfl)
      case hf =>
        intro g8
        refine SXL.fieldAddr fp_23_0 rfl ?_
        refine SXL.load1o 1 sh_3 rfl rfl rfl ?_
        refine SXL.fieldAddr fp_23_1 rfl ?_
        refine SXL.load1o 1 sh_3 rfl rfl rfl ?_
        refine SXL.gtr rfl rfl ?_
        exact SXL.nil (segQ.mk (.skip rfl (.skip rfl (.skip rfl (.skip rfl (.skip rfl (.skip rfl (EnvSub.refl _))))))) rfl rfl ⟨rfl, rfl⟩)
      refine SXL.move rfl ?_
      apply SXL.orG 5
      case hl => exact rfl
      case hd => exact rfl
      case hg => exact rfl
      case ht =>
        intro g9
        refine SXL.pass rfl rfl rfl ?_
        refine SXL.pass rfl rfl rfl ?_
        refine SXL.pass rfl rfl rfl ?_
        refine SXL.pass rfl rfl rfl ?_
        refine SXL.pass rfl rfl rfl ?_
        exact SXL.nil (segQ.mk (.skip rfl (.skip rfl (.skip rfl (.skip rfl (.skip rfl (.skip rfl (EnvSub.refl _))))))) rfl rfl rfl)
      case hf =>
        intro g9
        refine SXL.fieldAddr fp_23_1 rfl ?_
        refine SXL.load1o 1 sh_3 rfl rfl rfl ?_
        refine SXL.fieldAddr fp_27_1 rfl ?_
        refine SXL.load1o 0 sh_3 rfl rfl rfl ?_
        refine SXL.gtr rfl rfl ?_
        exact SXL.nil (segQ.mk (.skip rfl (.skip rfl (.skip rfl (.skip rfl (.skip rfl (.skip rfl (EnvSub.refl _))))))) rfl rfl ⟨rfl, rfl⟩)
      refine SXL.move rfl ?_
      apply SXL.orG 3
      case hl => exact rfl
      case hd => exact rfl
      case hg => exact rfl
      case ht =>
        intro c98
        refine SXL.pass rfl rfl rfl ?_
        refine SXL.pass rfl rfl rfl ?_
        refine SXL.pass rfl rfl rfl ?_
        exact SXL.nil (segQ.mk (.skip rfl (.skip rfl (.skip rfl (.skip rfl (EnvSub.refl _))))) rfl rfl rfl)
      case hf =>
        intro c98
        refine SXL.move rfl ?_
        refine SXL.len is_35 rfl ?_
        refine SXL.gtr rfl rfl ?_
        exact SXL.nil (segQ.mk (.skip rfl (.skip rfl (.skip rfl (.skip rfl (EnvSub.refl _))))) rfl rfl ⟨rfl, rfl⟩)
      refine SXL.nil ?_
      refine thenQ.normal ?_
      refine SX.condP rfl (fun c98 => ?_) (fun c98 => ?_)
      · exfalso; omega
      refine SX.skip ?_
      refine thenQ.normal ?_
      refine SX.seq ?_
      refine SX.region ?_
      refine SXL.assign rfl ?_
      refine SXL.assign rfl ?_
      refine SXL.nil ?_
      refine thenQ.normal ?_
      refine SX.seq ?_
      refine SX.seq ?_
      have honp : 0 ≤ (givesLo s (k : Int)) ∧ (givesLo s (k : Int)) ≤ 100 := by omega
      have honr : 0 ≤ (givesHi s (k : Int)) ∧ (givesHi s (k : Int)) ≤ 100 := by omega
      refine SX.region ?_
      refine SXL.fieldAddr fp_27_4 rfl ?_
      refine SXL.fieldAddr fp_23_0 rfl ?_
      refine SXL.load1o 0 sh_3 rfl rfl rfl ?_
      refine SXL.assign rfl ?_
      refine SXL.nil ?_
      refine thenQ.normal ?_
      refine SX.block ?_
      refine SX.loopW (α := Nat) [2, 4, 5, 6, 7, 9] rfl (fun j => [(13, .int .i64 (s.w0 + (j : Int))), (11, .bool (decide (orTo s k (givesLo s (k : Int)) j))), (12, .bool (decide (orTo s k (givesHi s (k : Int)) j)))]) (fun j => [(b0, .cells ⟨[.int .i64 s.weeks, .int .i64 s.most, .int .i64 s.fall, .int .i64 s.a0, .int .i64 s.a1, .int .i64 s.w0, .int .i64 s.w1, (.slice bo s.book.length bc), (.slice ro s.reads.length rc)]⟩ 27 (0, 0)), (b1, .cells ⟨[.int .i64 (givesLo s (k : Int)), .int .i64 (givesHi s (k : Int))]⟩ 23 (0, 0)), q0.ent 3 (ints (toldL s 0))]) (fun j => []) (fun j => j ≤ rnN s) (fun j => rnN s - j) 0 (Nat.zero_le _) ⟨congrArg (fun z => some (Value.int .i64 z)) (show s.w0 = s.w0 + ((0 : Nat) : Int) from by omega), rfl, rfl, trivial⟩ rfl ?_
      rintro j hj0
      refine SX.seq ?_
      refine SX.seq ?_
      refine SX.region ?_
      refine SXL.move rfl ?_
      refine SXL.fieldAddr fp_27_4 rfl ?_
      refine SXL.fieldAddr fp_23_1 rfl ?_
      refine SXL.load1o 0 sh_3 rfl rfl rfl ?_
      refine SXL.leq rfl rfl ?_
      refine SXL.nil ?_
      refine thenQ.normal ?_
      refine SX.condP rfl (fun c106 => ?_) (fun c106 => ?_)
      · refine SX.skip ?_
        refine thenQ.normal ?_
        refine SX.seq ?_
        refine SX.block ?_
        refine SX.seq ?_
        have hj : j < rnN s := by unfold rnN; omega
        have hrw : Wi (s.w0 + (j : Int)) s.w0 s.w1 := by omega
        have hov : ∀ n : Int, 0 ≤ n ∧ n ≤ 100 → SpP (onlyS s (s.w0 + (j : Int)) (k : Int) n) := fun n hn => only_valid hv hb8 hrw hk hn
        refine SX.region ?_
        refine SXL.loadNo 0 sh_27 rfl rfl rfl ?_
        refine SXL.move rfl ?_
        refine SXL.move rfl ?_
        refine SXL.fieldAddr fp_23_0 rfl ?_
        refine SXL.load1o 1 sh_3 rfl rfl rfl ?_
        refine SXL.callF (SpR (onlyS s (s.w0 + (j : Int)) (k : Int) (givesLo s (k : Int)))) fn_61 rfl (fun w hI => only_any s bo ro bc rc (s.w0 + (j : Int)) (k : Int) (givesLo s (k : Int)) (by omega) (by omega) w (hs.inv hI)) ?_; rintro _ _ ⟨p1, p2, op1, op2, rfl, rfl⟩
        refine SXL.call1 (.tuple ⟨[.bool (decide (TrueP (onlyS s (s.w0 + (j : Int)) (k : Int) (givesLo s (k : Int))))), .int .i64 0]⟩) fn_18 rfl (fun w hI => (scan_any (onlyS s (s.w0 + (j : Int)) (k : Int) (givesLo s (k : Int))) p1.addr p2.addr p1.cap p2.cap (by have := (hov (givesLo s (k : Int)) honp).1; unfold HeadP at this; omega) (by have := (hov (givesLo s (k : Int)) honp).1; unfold HeadP at this; omega) _ (hg.inv hI) (spAtOwn hI op1 op2 (i := 3) (j := 4) rfl rfl)).eqv (by rw [if_pos (hov (givesLo s (k : Int)) honp)]; simp [hov (givesLo s (k : Int)) honp])) ?_
        refine SXL.move rfl ?_
        refine SXL.extract rfl rfl ?_
        refine SXL.extract rfl rfl ?_
        refine SXL.assign rfl ?_
        refine SXL.assign rfl ?_
        refine SXL.nil ?_
        refine thenQ.normal ?_
        refine SX.seq ?_
        refine SX.region ?_
        refine SXL.loadNo 0 sh_27 rfl rfl rfl ?_
        refine SXL.move rfl ?_
        refine SXL.move rfl ?_
        refine SXL.fieldAddr fp_23_1 rfl ?_
        refine SXL.load1o 1 sh_3 rfl rfl rfl ?_
        refine SXL.callF (SpR (onlyS s (s.w0 + (j : Int)) (k : Int) (givesHi s (k : Int)))) fn_61 rfl (fun w hI => only_any s bo ro bc rc (s.w0 + (j : Int)) (k : Int) (givesHi s (k : Int)) (by omega) (by omega) w (hs.inv hI)) ?_; rintro _ _ ⟨r1, r2, or1, or2, rfl, rfl⟩
        refine SXL.call1 (.tuple ⟨[.bool (decide (TrueP (onlyS s (s.w0 + (j : Int)) (k : Int) (givesHi s (k : Int))))), .int .i64 0]⟩) fn_18 rfl (fun w hI => (scan_any (onlyS s (s.w0 + (j : Int)) (k : Int) (givesHi s (k : Int))) r1.addr r2.addr r1.cap r2.cap (by have := (hov (givesHi s (k : Int)) honr).1; unfold HeadP at this; omega) (by have := (hov (givesHi s (k : Int)) honr).1; unfold HeadP at this; omega) _ (hg.inv hI) (spAtOwn hI or1 or2 (i := 5) (j := 6) rfl rfl)).eqv (by rw [if_pos (hov (givesHi s (k : Int)) honr)]; simp [hov (givesHi s (k : Int)) honr])) ?_
        refine SXL.move rfl ?_
        refine SXL.extract rfl rfl ?_
        refine SXL.extract rfl rfl ?_
        refine SXL.assign rfl ?_
        refine SXL.assign rfl ?_
        refine SXL.nil ?_
        refine thenQ.normal ?_
        refine SX.seq ?_
        refine SX.seq ?_
        refine SX.region ?_
        refine SXL.move rfl ?_
        refine SXL.neqI rfl rfl ?_
        refine SXL.move rfl ?_
        apply SXL.orG 2
        case hl => exact rfl
        case hd => exact rfl
        case hg => exact rfl
        case ht =>
          intro g13
          refine SXL.pass rfl rfl rfl ?_
          refine SXL.pass rfl rfl rfl ?_
          exact SXL.nil (segQ.mk (.skip rfl (.skip rfl (.skip rfl (EnvSub.refl _)))) rfl rfl rfl)
        case hf =>
          intro g13
          refine SXL.move rfl ?_
          refine SXL.neqI rfl rfl ?_
          exact SXL.nil (segQ.mk (.skip rfl (.skip rfl (.skip rfl (EnvSub.refl _)))) rfl rfl ⟨rfl, rfl⟩)
        refine SXL.move rfl ?_
        apply SXL.orG 10
        case hl => exact rfl
        case hd => exact rfl
        case hg => exact rfl
        case ht =>
          intro c146
          refine SXL.pass rfl rfl rfl ?_
          refine SXL.pass rfl rfl rfl ?_
          refine SXL.pass rfl rfl rfl ?_
          refine SXL.pass rfl rfl rfl ?_
          refine SXL.pass rfl rfl rfl ?_
          refine SXL.pass rfl rfl rfl ?_
          refine SXL.pass rfl rfl rfl ?_
          refine SXL.pass rfl rfl rfl ?_
          refine SXL.pass rfl rfl rfl ?_
          refine SXL.pass rfl rfl rfl ?_
          exact SXL.nil (segQ.mk (.skip rfl (.skip rfl (.skip rfl (.skip rfl (.skip rfl (.skip rfl (.skip rfl (.skip rfl (.skip rfl (.skip rfl (.skip rfl (EnvSub.refl _)))))))))))) rfl rfl rfl)
        case hf =>
          intro c146
          refine SXL.move rfl ?_
          refine SXL.move rfl ?_
          apply SXL.orG 1
          case hl => exact rfl
          case hd => exact rfl
          case hg => exact rfl
          case ht =>
            intro g15
            refine SXL.pass rfl rfl rfl ?_
            exact SXL.nil (segQ.mk (.skip rfl (.skip rfl (EnvSub.refl _))) rfl rfl rfl)
          case hf =>
            intro g15
            refine SXL.move rfl ?_
            exact SXL.nil (segQ.mk (.skip rfl (.skip rfl (EnvSub.refl _))) rfl rfl ⟨rfl, rfl⟩)
          refine SXL.move rfl ?_
          apply SXL.andG 4
          case hl => exact rfl
          case hd => exact rfl
          case hg => exact rfl
          case ht =>
            intro g16
            refine SXL.move rfl ?_
            refine SXL.move rfl ?_
            refine SXL.call1 (.bool (decide ((s.w0 + (j : Int)) ∈ toldL s 0))) fn_57 rfl (fun w hI => has_any (toldL s 0) (s.w0 + (j : Int)) q0.addr q0.cap (by omega) _ (slOnes hI u0 (i := 2) rfl)) ?_
            refine SXL.not rfl ?_
            exact SXL.nil (segQ.mk (.skip rfl (.skip rfl (.skip rfl (.skip rfl (.skip rfl (EnvSub.refl _)))))) rfl rfl ⟨rfl, rfl⟩)
          case hf =>
            intro g16
            refine SXL.pass rfl rfl rfl ?_
            refine SXL.pass rfl rfl rfl ?_
            refine SXL.pass rfl rfl rfl ?_
            refine SXL.pass rfl rfl rfl ?_
            exact SXL.nil (segQ.mk (.skip rfl (.skip rfl (.skip rfl (.skip rfl (.skip rfl (EnvSub.refl _)))))) rfl rfl rfl)
          exact SXL.nil (segQ.mk (.skip rfl (.skip rfl (.skip rfl (.skip rfl (EnvSub.refl _))))) rfl rfl ⟨rfl, rfl⟩)
        refine SXL.nil ?_
        refine thenQ.normal ?_
        refine SX.condP rfl (fun c146 => ?_) (fun c146 => ?_)
        · exfalso; exact c146.elim (fun h => h.elim (fun h => h rfl) (fun h => h rfl)) (fun h => h.2 (h.1.elim (only_rain hv ht hb8 hrw hk honp) (only_rain hv ht hb8 hrw hk honr)))
        refine SX.skip ?_
        refine thenQ.normal ?_
        refine SX.region ?_
        refine SXL.move rfl ?_
        refine SXL.move rfl ?_
        apply SXL.orG 1
        case hl => exact rfl
        case hd => exact rfl
        case hg => exact rfl
        case ht =>
          intro g18
          refine SXL.pass rfl rfl rfl ?_
          exact SXL.nil (segQ.mk (.skip rfl (.skip rfl (EnvSub.refl _))) rfl rfl rfl)
        case hf =>
          intro g18
          refine SXL.move rfl ?_
          exact SXL.nil (segQ.mk (.skip rfl (.skip rfl (EnvSub.refl _))) rfl rfl ⟨rfl, rfl⟩)
        refine SXL.move rfl ?_
        refine SXL.move rfl ?_
        apply SXL.orG 1
        case hl => exact rfl
        case hd => exact rfl
        case hg => exact rfl
        case ht =>
          intro g19
          refine SXL.pass rfl rfl rfl ?_
          exact SXL.nil (segQ.mk (.skip rfl (.skip rfl (EnvSub.refl _))) rfl rfl rfl)
        case hf =>
          intro g19
          refine SXL.move rfl ?_
          exact SXL.nil (segQ.mk (.skip rfl (.skip rfl (EnvSub.refl _))) rfl rfl ⟨rfl, rfl⟩)
        refine SXL.assign rfl ?_
        refine SXL.assign rfl ?_
        refine SXL.nil ?_
        refine blockQ.normal ?_
        refine thenQ.normal ?_
        refine SX.region ?_
        refine SXL.move rfl ?_
        refine SXL.add rfl rfl (by omega) ?_
        refine SXL.assign rfl ?_
        refine SXL.nil ?_
        refine thenQ.normal ?_
        refine ⟨j + 1, MeetsW.mkP _ ⟨congrArg (fun z => some (Value.int .i64 z)) (show s.w0 + (j : Int) + 1 = s.w0 + ((j + 1 : Nat) : Int) from by omega), rfl, rfl, trivial⟩ ⟨rfl, rfl, rfl, rfl, rfl, rfl, trivial⟩ rfl, (by omega), (by show rnN s - (j + 1) < rnN s - j; omega)⟩
      · refine SX.exit ?_
        refine thenQ.exit ?_
        refine thenQ.exit ?_
        refine blockQ.exit ?_
        refine thenQ.normal ?_
        refine SX.seq ?_
        have hjn : j = rnN s := by unfold rnN at hj0 ⊢; omega
        subst hjn
        obtain ⟨eb1, eb2⟩ := ends_both hv ht hb8 hk
        obtain ⟨bh1, bh2⟩ := best_holds hTo
        refine SX.region ?_
        refine SXL.loadNo 0 sh_27 rfl rfl rfl ?_
        refine SXL.callF (IsR3 (bestR s (poorI s)) (bestL s 0 (poorI s)) (toldE s 0)) fn_46 rfl (fun w hI => spoor_any s bo ro bc rc (by omega) (by omega) w (hg.inv hI) (hs.inv hI)) ?_; rintro _ _ ⟨q2, u2, rfl, rfl⟩
        refine SXL.move rfl ?_
        refine SXL.extract rfl rfl ?_
        refine SXL.extract rfl rfl ?_
        refine SXL.extract rfl rfl ?_
        refine SXL.assign rfl ?_
        refine SXL.assign rfl ?_
        refine SXL.assign rfl ?_
        refine SXL.nil ?_
        refine thenQ.normal ?_
        refine SX.seq ?_
        refine SX.region ?_
        refine SXL.loadNo 0 sh_27 rfl rfl rfl ?_
        refine SXL.callF (IsR3 (bestR s (richI s)) (bestL s 10 (richI s)) (toldE s 0)) fn_48 rfl (fun w hI => srich_any s bo ro bc rc (by omega) (by omega) w (hg.inv hI) (hs.inv hI)) ?_; rintro _ _ ⟨q3, u3, rfl, rfl⟩
        refine SXL.move rfl ?_
        refine SXL.extract rfl rfl ?_
        refine SXL.extract rfl rfl ?_
        refine SXL.extract rfl rfl ?_
        refine SXL.assign rfl ?_
        refine SXL.assign rfl ?_
        refine SXL.assign rfl ?_
        refine SXL.nil ?_
        refine thenQ.normal ?_
        refine SX.seq ?_
        refine SX.seq ?_
        refine SX.region ?_
        refine SXL.move rfl ?_
        refine SXL.neqI rfl rfl ?_
        refine SXL.move rfl ?_
        apply SXL.orG 2
        case hl => exact rfl
        case hd => exact rfl
        case hg => exact rfl
        case ht =>
          intro g20
          refine SXL.pass rfl rfl rfl ?_
          refine SXL.pass rfl rfl rfl ?_
          exact SXL.nil (segQ.mk (.skip rfl (.skip rfl (.skip rfl (EnvSub.refl _)))) rfl rfl rfl)
        case hf =>
          intro g20
          refine SXL.move rfl ?_
          refine SXL.neqI rfl rfl ?_
          exact SXL.nil (segQ.mk (.skip rfl (.skip rfl (.skip rfl (EnvSub.refl _)))) rfl rfl ⟨rfl, rfl⟩)
        refine SXL.move rfl ?_
        apply SXL.orG 5
        case hl => exact rfl
        case hd => exact rfl
        case hg => exact rfl
        case ht =>
          intro g21
          refine SXL.pass rfl rfl rfl ?_
          refine SXL.pass rfl rfl rfl ?_
          refine SXL.pass rfl rfl rfl ?_
          refine SXL.pass rfl rfl rfl ?_
          refine SXL.pass rfl rfl rfl ?_
          exact SXL.nil (segQ.mk (.skip rfl (.skip rfl (.skip rfl (.skip rfl (.skip rfl (.skip rfl (EnvSub.refl _))))))) rfl rfl rfl)
        case hf =>
          intro g21
          refine SXL.loadNo 0 sh_27 rfl rfl rfl ?_
          refine SXL.move rfl ?_
          refine SXL.move rfl ?_
          refine SXL.call1 (.bool (decide (True))) fn_62 rfl (fun w hI => (holds_any s bo ro bc rc hv (bestR s (poorI s)) (bestL s 0 (poorI s)) q2.addr q2.cap bh1 _ (hs.inv hI) (slOnes hI u2 (i := 3) rfl)).eqv rfl) ?_
          refine SXL.not rfl ?_
          exact SXL.nil (segQ.mk (.skip rfl (.skip rfl (.skip rfl (.skip rfl (.skip rfl (.skip rfl (EnvSub.refl _))))))) rfl rfl ⟨rfl, rfl⟩)
        refine SXL.move rfl ?_
        apply SXL.orG 5
        case hl => exact rfl
        case hd => exact rfl
        case hg => exact rfl
        case ht =>
          intro c186
          refine SXL.pass rfl rfl rfl ?_
          refine SXL.pass rfl rfl rfl ?_
          refine SXL.pass rfl rfl rfl ?_
          refine SXL.pass rfl rfl rfl ?_
          refine SXL.pass rfl rfl rfl ?_
          exact SXL.nil (segQ.mk (.skip rfl (.skip rfl (.skip rfl (.skip rfl (.skip rfl (.skip rfl (EnvSub.refl _))))))) rfl rfl rfl)
        case hf =>
          intro c186
          refine SXL.loadNo 0 sh_27 rfl rfl rfl ?_
          refine SXL.move rfl ?_
          refine SXL.move rfl ?_
          refine SXL.call1 (.bool (decide (True))) fn_62 rfl (fun w hI => (holds_any s bo ro bc rc hv (bestR s (richI s)) (bestL s 10 (richI s)) q3.addr q3.cap bh2 _ (hs.inv hI) (slOnes hI u3 (i := 4) rfl)).eqv rfl) ?_
          refine SXL.not rfl ?_
          exact SXL.nil (segQ.mk (.skip rfl (.skip rfl (.skip rfl (.skip rfl (.skip rfl (.skip rfl (EnvSub.refl _))))))) rfl rfl ⟨rfl, rfl⟩)
        refine SXL.nil ?_
        refine thenQ.normal ?_
        refine SX.condP rfl (fun c186 => ?_) (fun c186 => ?_)
        · exfalso; exact c186.elim (fun h => h.elim (fun h => h.elim (fun h => h hTo) (fun h => h hTo)) (fun h => h trivial)) (fun h => h trivial)
        refine SX.skip ?_
        refine thenQ.normal ?_
        refine SX.seq ?_
        refine SX.seq ?_
        refine SX.region ?_
        refine SXL.move rfl ?_
        refine SXL.len is_35 rfl ?_
        refine SXL.move rfl ?_
        refine SXL.nil ?_
        refine thenQ.normal ?_
        refine SX.block ?_
        refine SX.loopW (α := Nat) [2, 4, 5, 9, 11, 12, 187, 188] rfl (fun k2 => [(189, .int .i64 ((k2 : Int)))]) (fun k2 => [(b0, .cells ⟨[.int .i64 s.weeks, .int .i64 s.most, .int .i64 s.fall, .int .i64 s.a0, .int .i64 s.a1, .int .i64 s.w0, .int .i64 s.w1, (.slice bo s.book.length bc), (.slice ro s.reads.length rc)]⟩ 27 (0, 0)), (b1, .cells ⟨[.int .i64 (givesLo s (k : Int)), .int .i64 (givesHi s (k : Int))]⟩ 23 (0, 0)), q0.ent 3 (ints (toldL s 0)), q2.ent 3 (ints (bestL s 0 (poorI s))), q3.ent 3 (ints (bestL s 10 (richI s)))]) (fun k2 => []) (fun k2 => k2 ≤ (toldL s 0).length) (fun k2 => (toldL s 0).length - k2) 0 (Nat.zero_le _) ⟨rfl, trivial⟩ rfl ?_
        rintro k2 hk20
        refine SX.seq ?_
        refine SX.region ?_
        refine SXL.lss rfl rfl ?_
        refine SXL.nil ?_
        refine thenQ.normal ?_
        refine SX.seq ?_
        refine SX.condP rfl (fun c24 => ?_) (fun c24 => ?_)
        · refine SX.skip ?_
          refine thenQ.normal ?_
          refine SX.seq ?_
          refine SX.block ?_
          refine SX.seq ?_
          have hk2 : k2 < (toldL s 0).length := by omega
          have hone := oneR_facts hTo (r := ((toldL s 0).getD k2 0)) (by rw [List.getD_eq_getElem?_getD, List.getElem?_eq_getElem hk2]; exact List.getElem_mem _)
          refine SX.region ?_
          refine SXL.move rfl ?_
          refine SXL.indexSl 2 el_35 rfl rfl (by omega) rfl u0 ?_; intro b9 hb9
          refine SXL.loadSl1 2 (v := .int .i64 ((toldL s 0).getD k2 0)) sh_3 rfl hb9 rfl u0 (by simp [ints, hk2]) ?_
          refine SXL.assign rfl ?_
          refine SXL.assign rfl ?_
          refine SXL.nil ?_
          refine thenQ.normal ?_
          refine SX.seq ?_
          refine SX.region ?_
          refine SXL.loadNo 0 sh_27 rfl rfl rfl ?_
          refine SXL.callF (SpR s) fn_17 rfl (fun w hI => twin_any s bo ro bc rc (by omega) (by omega) w (hs.inv hI)) ?_; rintro _ _ ⟨r1, r2, o1, o2, rfl, rfl⟩
          refine SXL.alloc zp_27 ?_; intro b7
          refine SXL.store 7 sz_27 rfl rfl rfl rfl rfl (show _ = some [.int .i64 s.weeks, .int .i64 s.most, .int .i64 s.fall, .int .i64 s.a0, .int .i64 s.a1, .int .i64 s.w0, .int .i64 s.w1, r1.val s.book.length, r2.val s.reads.length] from rfl) ?_
          refine SXL.nil ?_
          refine thenQ.normal ?_
          refine SX.seq ?_
          refine SX.region ?_
          refine SXL.move rfl ?_
          refine SXL.move rfl ?_
          refine SXL.call1 (.agg ⟨[.int .i64 (((toldL s 0).getD k2 0)), .int .i64 (((toldL s 0).getD k2 0))]⟩) fn_63 rfl (fun w hI => mkSpan_any _ _ _) ?_
          refine SXL.fieldAddr fp_27_4 rfl ?_
          refine SXL.store 7 sz_23 rfl rfl rfl rfl rfl (show _ = some [.int .i64 s.weeks, .int .i64 s.most, .int .i64 s.fall, .int .i64 s.a0, .int .i64 s.a1, .int .i64 ((toldL s 0).getD k2 0), .int .i64 ((toldL s 0).getD k2 0), r1.val s.book.length, r2.val s.reads.length] from rfl) ?_
          refine SXL.nil ?_
          refine thenQ.normal ?_
          refine SX.seq ?_
          refine SX.region ?_
          refine SXL.loadNo 7 sh_27 rfl rfl rfl ?_
          refine SXL.call1 (.tuple ⟨[.bool (decide (TrueP (oneR s ((toldL s 0).getD k2 0)))), .int .i64 0]⟩) fn_18 rfl (fun w hI => (scan_any (oneR s ((toldL s 0).getD k2 0)) r1.addr r2.addr r1.cap r2.cap (show s.book.length ≤ _ by omega) (show s.reads.length ≤ _ by omega) _ (hg.inv hI) (⟨(spAtOwn hI o1 o2 (i := 5) (j := 6) rfl rfl).book, (spAtOwn hI o1 o2 (i := 5) (j := 6) rfl rfl).reads⟩ : SpAt _ (oneR s ((toldL s 0).getD k2 0)) _ _)).eqv (by rw [if_pos hone.2.1]; exact congrArg (fun b => Value.tuple ⟨[.bool b, .int .i64 0]⟩) (decide_eq_decide.2 ⟨fun h => h.2, fun h => ⟨hone.2.1, h⟩⟩))) ?_
          refine SXL.move rfl ?_
          refine SXL.extract rfl rfl ?_
          refine SXL.extract rfl rfl ?_
          refine SXL.assign rfl ?_
          refine SXL.assign rfl ?_
          refine SXL.nil ?_
          refine thenQ.normal ?_
          refine SX.seq ?_
          refine SX.region ?_
          refine SXL.move rfl ?_
          refine SXL.neqI rfl rfl ?_
          refine SXL.move rfl ?_
          apply SXL.orG 2
          case hl => exact rfl
          case hd => exact rfl
          case hg => exact rfl
          case ht =>
            intro g25
            refine SXL.pass rfl rfl rfl ?_
            refine SXL.pass rfl rfl rfl ?_
            exact SXL.nil (segQ.mk (.skip rfl (.skip rfl (.skip rfl (EnvSub.refl _)))) rfl rfl rfl)
          case hf =>
            intro g25
            refine SXL.move rfl ?_
            refine SXL.not rfl ?_
            exact SXL.nil (segQ.mk (.skip rfl (.skip rfl (.skip rfl (EnvSub.refl _)))) rfl rfl ⟨rfl, rfl⟩)
          refine SXL.move rfl ?_
          apply SXL.orG 5
          case hl => exact rfl
          case hd => exact rfl
          case hg => exact rfl
          case ht =>
            intro g26
            refine SXL.pass rfl rfl rfl ?_
            refine SXL.pass rfl rfl rfl ?_
            refine SXL.pass rfl rfl rfl ?_
            refine SXL.pass rfl rfl rfl ?_
            refine SXL.pass rfl rfl rfl ?_
            exact SXL.nil (segQ.mk (.skip rfl (.skip rfl (.skip rfl (.skip rfl (.skip rfl (.skip rfl (EnvSub.refl _))))))) rfl rfl rfl)
          case hf =>
            intro g26
            refine SXL.move rfl ?_
            refine SXL.fieldAddr fp_27_4 rfl ?_
            refine SXL.loadNo 0 sh_23 rfl rfl rfl ?_
            refine SXL.call1 (.bool (decide (s.w0 ≤ ((toldL s 0).getD k2 0) ∧ ((toldL s 0).getD k2 0) ≤ s.w1))) fn_58 rfl (fun w hI => inside_any ((toldL s 0).getD k2 0) s.w0 s.w1 _) ?_
            refine SXL.not rfl ?_
            exact SXL.nil (segQ.mk (.skip rfl (.skip rfl (.skip rfl (.skip rfl (.skip rfl (.skip rfl (EnvSub.refl _))))))) rfl rfl ⟨rfl, rfl⟩)
          refine SXL.move rfl ?_
          apply SXL.orG 11
          case hl => exact rfl
          case hd => exact rfl
          case hg => exact rfl
          case ht =>
            intro c230
            refine SXL.pass rfl rfl rfl ?_
            refine SXL.pass rfl rfl rfl ?_
            refine SXL.pass rfl rfl rfl ?_
            refine SXL.pass rfl rfl rfl ?_
            refine SXL.pass rfl rfl rfl ?_
            refine SXL.pass rfl rfl rfl ?_
            refine SXL.pass rfl rfl rfl ?_
            refine SXL.pass rfl rfl rfl ?_
            refine SXL.pass rfl rfl rfl ?_
            refine SXL.pass rfl rfl rfl ?_
            refine SXL.pass rfl rfl rfl ?_
            exact SXL.nil (segQ.mk (.skip rfl (.skip rfl (.skip rfl (.skip rfl (.skip rfl (.skip rfl (.skip rfl (.skip rfl (.skip rfl (.skip rfl (.skip rfl (.skip rfl (EnvSub.refl _))))))))))))) rfl rfl rfl)
          case hf =>
            intro c230
            refine SXL.move rfl ?_
            refine SXL.gtr rfl rfl ?_
            refine SXL.move rfl ?_
            apply SXL.andG 7
            case hl => exact rfl
            case hd => exact rfl
            case hg => exact rfl
            case ht =>
              intro g28
              refine SXL.move rfl ?_
              refine SXL.move rfl ?_
              refine SXL.sub rfl rfl (by omega) ?_
              refine SXL.indexSl 2 el_35 rfl rfl (by omega) rfl u0 ?_; intro b8 hb8
              refine SXL.loadSl1 2 (v := .int .i64 ((toldL s 0).getD (k2 - 1) 0)) sh_3 rfl hb8 rfl u0 (by rw [show ((k2 : Int) - 1).toNat = k2 - 1 from by omega]; simp [ints, show k2 - 1 < (toldL s 0).length by omega]) ?_
              refine SXL.move rfl ?_
              refine SXL.geq rfl rfl ?_
              exact SXL.nil (segQ.mk (.skip rfl (.skip rfl (.skip rfl (.skip rfl (.skip rfl (.skip rfl (.skip rfl (.skip rfl (EnvSub.refl _))))))))) rfl rfl ⟨rfl, rfl⟩)
            case hf =>
              intro g28
              refine SXL.pass rfl rfl rfl ?_
              refine SXL.pass rfl rfl rfl ?_
              refine SXL.pass rfl rfl rfl ?_
              refine SXL.pass rfl rfl rfl ?_
              refine SXL.pass rfl rfl rfl ?_
              refine SXL.pass rfl rfl rfl ?_
              refine SXL.pass rfl rfl rfl ?_
              exact SXL.nil (segQ.mk (.skip rfl (.skip rfl (.skip rfl (.skip rfl (.skip rfl (.skip rfl (.skip rfl (.skip rfl (EnvSub.refl _))))))))) rfl rfl rfl)
            exact SXL.nil (segQ.mk (.skip rfl (.skip rfl (.skip rfl (.skip rfl (EnvSub.refl _))))) rfl rfl ⟨rfl, rfl⟩)
          refine SXL.nil ?_
          refine thenQ.normal ?_
          refine SX.condP rfl (fun c230 => ?_) (fun c230 => ?_)
          · exfalso; exact c230.elim (fun h => h.elim (fun h => h.elim (fun h => h rfl) (fun h => h hone.2.2)) (fun h => h hone.1)) (fun h => by have := rains_asc (s := s) k2 (by omega) hk2; omega)
          refine SX.skip ?_
          refine blockQ.normal ?_
          refine thenQ.normal ?_
          refine SX.region ?_
          refine SXL.add rfl rfl (by omega) ?_
          refine SXL.move rfl ?_
          refine SXL.nil ?_
          refine thenQ.normal ?_
          refine ⟨k2 + 1, MeetsW.mkP _ ⟨rfl, trivial⟩ ⟨rfl, rfl, rfl, rfl, rfl, rfl, rfl, rfl, trivial⟩ rfl, (by omega), (by show (toldL s 0).length - (k2 + 1) < (toldL s 0).length - k2; omega)⟩
        · refine SX.exit ?_
          refine thenQ.exit ?_
          refine thenQ.exit ?_
          refine blockQ.exit ?_
          refine thenQ.normal ?_
          refine SX.seq ?_
          refine SX.region ?_
          refine SXL.move rfl ?_
          refine SXL.move rfl ?_
          apply SXL.andG 1
          case hl => exact rfl
          case hd => exact rfl
          case hg => exact rfl
          case ht =>
            intro g30
            refine SXL.move rfl ?_
            exact SXL.nil (segQ.mk (.skip rfl (.skip rfl (EnvSub.refl _))) rfl rfl ⟨rfl, rfl⟩)
          case hf =>
            intro g30
            refine SXL.pass rfl rfl rfl ?_
            exact SXL.nil (segQ.mk (.skip rfl (.skip rfl (EnvSub.refl _))) rfl rfl rfl)
          refine SXL.move rfl ?_
          apply SXL.andG 1
          case hl => exact rfl
          case hd => exact rfl
          case hg => exact rfl
          case ht =>
            intro g31
            refine SXL.move rfl ?_
            exact SXL.nil (segQ.mk (.skip rfl (.skip rfl (EnvSub.refl _))) rfl rfl ⟨rfl, rfl⟩)
          case hf =>
            intro g31
            refine SXL.pass rfl rfl rfl ?_
            exact SXL.nil (segQ.mk (.skip rfl (.skip rfl (EnvSub.refl _))) rfl rfl rfl)
          refine SXL.assign rfl ?_
          refine SXL.nil ?_
          refine thenQ.normal ?_
          refine SX.ret ?_
          refine retQ.dead [] rfl ?_
          refine retQ.one (ResAt.tmp rfl) ?_
          exact congrArg Value.bool (decide_eq_true ⟨⟨trivial, eb1⟩, eb2⟩)
end Go.Proofs.YtknflipongbngaaDoor

/- SpringEnds: whatever the input, the law returns true and the input reads as it did. Its condition: the package's variables are as the program's text lays them (the card ties them). -/
namespace Go.Proofs.YtknflipongbngaaDoor.SpringEnds
open Go Go.X Go.S Go.RowKit Go.ChangeShapes Go.WideShapes Go.ChangeAt
set_option maxRecDepth 100000
/-- The door's own heap meets the condition. -/
theorem door_met (os : Os) (args : Array Value) : laidMetH Tryd.prog Rows.springEndsRow.laid ((World.doorLaid Tryd.prog 24 os).forCall (fun _ _ => 0) ⟨#[], args, []⟩).memory :=
  laidMetH_of_parts3 (fuel := 8) (laidMet_of_run' 8 (by kernel_rfl) (by kernel_rfl)) (by kernel_rfl) (by kernel_rfl)
theorem spec_fn (H : Type) (ds : List (DataW H)) (h : ds.length = Tryd.f8.params.toList.length) : Rows.springEndsSpec.fn H ds = { results := [.lit (.bool true)], args := ds } := by
  rw [Tryd.params8] at h
  match ds, h with
  | [e0, e1], _ => rfl
theorem contract (H : Type) (enc : TypeId × Value → H) (W : World) (base : Nat) (args : Array Value) (ds gs : List (DataW H)) (before : List MemPlace)
    (hval : ∀ (j : Nat) t v, Tryd.f8.params[j]? = some t → args[j]? = some v → Value.okWide Tryd.prog W .any base t v)
    (hW : DataW.Whole enc Tryd.prog Tryd.f8.params.toList Rows.springEndsSpec.vars false W args.toList ds gs before) (hL : laidMetH Tryd.prog Rows.springEndsRow.laid W) :
    Calls Tryd.prog 8 args W fun e W' => ∃ v, e = .returned v ∧ Rows.springEndsSpec.post enc Tryd.prog Tryd.f8 false true false false W args v W' := by
  have hW' := hW
  obtain ⟨p, q, hA0, hV, rfl, hfz, hnd⟩ := hW
  have hA : DataW.TrodAll enc Tryd.prog W 0 (fun _ => true) true Tryd.f8.params.toList args.toList ds p := hA0
  rw [Tryd.params8] at hA hval
  obtain ⟨v0, vs0, d0, ds0, p0, q0, hv0, rfl, hp0, h0, r0⟩ := trodAll_cons hA
  obtain ⟨v1, vs1, d1, ds1, p1, q1, hv1, rfl, hp1, h1, r1⟩ := trodAll_cons r0
  obtain ⟨hvn, rfl, hpn⟩ := trodAll_nil r1
  have hargs : args = #[v0, v1] := by cases args; simp_all
  subst hargs
  obtain ⟨cs0, rfl, hf0⟩ := arg_struct lay27 ⟨_, Tryd.underlying27⟩ (hval 0 27 _ rfl rfl) h0
  obtain ⟨s, bo, ro, bc, rc, rfl, hs⟩ := sp_of_fits hf0
  obtain ⟨which, rfl, bwhich⟩ := fit_u8 (arg_cell lay5 (by kernel_rfl) (hval 1 5 _ rfl rfl) h1)
  have hg : Gl W := ⟨checks_of_laid hL (by simp [Rows.springEndsRow]), none_of_laid hL rfl⟩
  refine Calls.mono (show Calls Tryd.prog 8 _ W _ from ends_law s bo ro bc rc which bwhich W hg hs) ?_
  rintro e W' ⟨v, own, rfl, hI, rfl⟩
  exact ⟨_, rfl, law_post laidOut (by rw [Tryd.params8]; kernel_rfl) rfl (spec_fn H) (tb := 4) (by kernel_rfl) Tryd.underlying4 hW' hI.below⟩
theorem lifted (os : Os) (started : os.Started) (H : Type) (enc : TypeId × Value → H) :
    ReturnsInHanded {} Tryd.checked os 8 .any (fun w args => (Rows.springEndsSpec.pre enc Tryd.prog Tryd.f8 [] false w args ∧ laidMetH Tryd.prog Rows.springEndsRow.laid w) ∧ sizedMet enc Tryd.prog Tryd.f8 (OpenSpec.ofChange Rows.springEndsSpec) false w args)
      (Rows.springEndsSpec.post enc Tryd.prog Tryd.f8 false true false false) := by
  refine returnsInHanded_of_change_and (C := Tryd.checked) (X := fun w _ => laidMetH Tryd.prog Rows.springEndsRow.laid w) (fun _ _ _ hh h => h.of_heap hh) ownGd started (by kernel_rfl) Tryd.func8
    (ChangeSpec.witness_shaped (enc := enc) (C := Tryd.checked) (os := os) (X := fun w _ => laidMetH Tryd.prog Rows.springEndsRow.laid w) false (World.doorLaid Tryd.prog 24 os) #[.agg ⟨[.int .i64 0, .int .i64 0, .int .i64 0, .int .i64 0, .int .i64 0, .int .i64 0, .int .i64 0, .slice none 0 0, .slice none 0 0]⟩, .int .u8 0] 8 rfl (World.shaped_of_RefB (by kernel_rfl) (by kernel_rfl)) (by kernel_rfl) (by kernel_rfl) (by kernel_rfl) (door_met os _)) ?_
  intro W base args ds gs before hval0 hW _ _ hL _
  exact contract H enc W base args ds gs before hval0 hW hL
theorem said : Rows.SpringEndsSaid :=
  OpenClaim.holds_of_wide 8 Tryd.f8 rfl rfl rfl rfl rfl rfl rfl ⟨rfl, rfl, rfl, rfl, rfl⟩ rfl rfl rfl rfl rfl (by kernel_rfl) Tryd.func8 (by kernel_rfl)
    (of_decide_eq_true (by kernel_rfl)) (by unfold Func.isWrapper; first | (rw [if_pos (by decide +kernel)]; kernel_rfl) | (rw [if_neg (by decide +kernel)]; exact ⟨rfl, rfl⟩))
    (fun os started H enc _ => lifted os started H enc)
theorem plain (f : FuncId) (fn : Func) (hf : Tryd.pinned.checked.prog.funcNamed "aguador/aguadorlaw01.SpringEnds" = some f) (hfn : Tryd.pinned.checked.prog.funcs[f]? = some fn) :
    false = Tryd.pinned.checked.prog.looks [] ∧ ∀ (j : Nat) t, fn.params[j]? = some t → Tryd.pinned.checked.prog.wantsStandIn t = false := by
  obtain rfl : f = 8 := Option.some.inj ((show Tryd.prog.funcNamed "aguador/aguadorlaw01.SpringEnds" = some 8 by kernel_rfl).symm.trans hf) |>.symm
  obtain rfl : fn = Tryd.f8 := (Option.some.inj (Tryd.func8.symm.trans hfn)).symm
  refine ⟨by kernel_rfl, fun j t ht => ?_⟩
  rw [Tryd.params8] at ht
  have hm : t ∈ ([27, 5] : List TypeId) := by simpa using Array.mem_of_getElem? ht
  have hall : (([27, 5] : List TypeId).all fun u => !Tryd.prog.wantsStandIn u) = true := by kernel_rfl
  exact (show Tryd.prog.wantsStandIn t = false by simpa using List.all_eq_true.1 hall t hm)
theorem springEnds_card : Rows.SpringEndsCardSaid :=
  Claim7.holds_tied_plain_at .later [] _ _ _ _ said (fun _ h => by cases h) (by kernel_rfl) (fun _ h => by cases h) springEnds_row_tie rfl ⟨rfl, rfl⟩ (by kernel_rfl) rfl plain (by kernel_rfl)
end Go.Proofs.YtknflipongbngaaDoor.SpringEnds
