/- SpringTruth: whatever the input, the law returns true and the input reads as it did. Its condition: the package's variables are as the program's text lays them (the card ties them). -/
import Derived.Test.YtknflipongbngaaDoorMSpringTruth6
import Derived.SevenTiedAt
/- SpringTruth: the walk. -/
namespace Go.Proofs.YtknflipongbngaaDoor
open Go.X Go.S Go.RowKit
set_option maxHeartbeats 4000000 in
theorem truth_law (s : Sp) (bo ro : Option Addr) (bc rc : Nat) (first bucket : Int) (hf : 0 ≤ first ∧ first ≤ 255) (hbk : 0 ≤ bucket ∧ bucket ≤ 255) (by_ : List Int) (yo : Option Addr) (yc : Nat) (hby : ∀ i, i < by_.length → 0 ≤ by_.getD i 0 ∧ by_.getD i 0 ≤ 255) (w : World) (hg : Gl w) (hs : SpAt w s bo ro) (hy : RowsAt w yo 1 (by_.map fun x => [.int .u8 x])) :
    CallsR Tryd.prog 7 [.agg ⟨[.int .i64 s.weeks, .int .i64 s.most, .int .i64 s.fall, .int .i64 s.a0, .int .i64 s.a1, .int .i64 s.w0, .int .i64 s.w1, (.slice bo s.book.length bc), (.slice ro s.reads.length rc)]⟩, .int .u8 first, .slice yo by_.length yc, .int .u8 bucket] w (fun v _ => v = .bool true) := by
  refine CallsR.of_SX (n := 217) (rs := [.tmp 8]) Tryd.func7 rfl rfl rfl rfl ?_
  show SX _ _ _ ⟨[(0, .agg ⟨[.int .i64 s.weeks, .int .i64 s.most, .int .i64 s.fall, .int .i64 s.a0, .int .i64 s.a1, .int .i64 s.w0, .int .i64 s.w1, (.slice bo s.book.length bc), (.slice ro s.reads.length rc)]⟩), (1, .int .u8 first), (2, .slice yo by_.length yc), (3, .int .u8 bucket)], [], []⟩
  refine SX.seq ?_
  refine SX.region ?_
  refine SXL.box rfl rfl ?_; intro b0
  refine SXL.assign rfl ?_
  refine SXL.nil ?_
  refine thenQ.normal ?_
  refine SX.seq ?_
  refine SX.region ?_
  refine SXL.call1 (.bool (decide (True))) fn_54 rfl (fun w hI => (alive_any w (hg.inv hI)).eqv rfl) ?_
  refine SXL.assign rfl ?_
  refine SXL.nil ?_
  refine thenQ.normal ?_
  refine SX.seq ?_
  refine SX.seq ?_
  refine SX.region ?_
  refine SXL.loadNo 0 sh_27 rfl rfl rfl ?_
  refine SXL.call1 (.bool (decide (¬((30 : Int) < (s.book.length : Int) ∨ (30 : Int) < (s.reads.length : Int)) ∧ SpP s))) fn_55 rfl (fun w hI => ready_any s bo ro bc rc _ (hs.inv hI)) ?_
  refine SXL.not rfl ?_
  refine SXL.move rfl ?_
  apply SXL.orG 2
  case hl => exact rfl
  case hd => exact rfl
  case hg => exact rfl
  case ht =>
    intro c39
    refine SXL.pass rfl rfl rfl ?_
    refine SXL.pass rfl rfl rfl ?_
    exact SXL.nil (segQ.mk (.skip rfl (.skip rfl (.skip rfl (EnvSub.refl _)))) rfl rfl rfl)
  case hf =>
    intro c39
    refine SXL.move rfl ?_
    refine SXL.not rfl ?_
    exact SXL.nil (segQ.mk (.skip rfl (.skip rfl (.skip rfl (EnvSub.refl _)))) rfl rfl ⟨rfl, rfl⟩)
  refine SXL.nil ?_
  refine thenQ.normal ?_
  refine SX.condP rfl (fun c39 => ?_) (fun c39 => ?_)
  · refine SX.seq ?_
    refine SX.region ?_
    refine SXL.move rfl ?_
    refine SXL.assign rfl ?_
    refine SXL.nil ?_
    refine thenQ.normal ?_
    refine SX.ret ?_
    refine thenQ.ret ?_
    refine retQ.dead [] rfl ?_
    refine retQ.one (ResAt.tmp rfl) ?_
    first | rfl | exact congrArg Value.bool (decide_eq_true trivial)
  · refine SX.skip ?_
    refine thenQ.normal ?_
    refine SX.seq ?_
    have hpre : (¬((30 : Int) < (s.book.length : Int) ∨ (30 : Int) < (s.reads.length : Int)) ∧ SpP s) := by
          by_cases h1 : ¬((30 : Int) < (s.book.length : Int) ∨ (30 : Int) < (s.reads.length : Int)) ∧ SpP s
          · exact h1
          · exact absurd (by first | exact .inl (.inl h1) | exact .inl h1 | exact h1) c39
    obtain ⟨hgr, hv⟩ := hpre
    have hH := hv.1
    unfold HeadP at hH
    refine SX.region ?_
    refine SXL.loadNo 0 sh_27 rfl rfl rfl ?_
    refine SXL.move rfl ?_
    refine SXL.move rfl ?_
    refine SXL.callF (FlowR s) fn_56 rfl (fun w hI => flows_any s bo ro bc rc first hf by_ yo yc hby hv w (hs.inv hI) (hy.inv hI)) ?_; rintro _ _ ⟨rain, q, l, p, ip, okl, rfl, rfl, hfl⟩
    refine SXL.move rfl ?_
    refine SXL.extract rfl rfl ?_
    refine SXL.extract rfl rfl ?_
    refine SXL.extract rfl rfl ?_
    refine SXL.assign rfl ?_
    refine SXL.assign rfl ?_
    refine SXL.assign rfl ?_
    refine SXL.nil ?_
    refine thenQ.normal ?_
    refine SX.seq ?_
    refine SX.seq ?_
    refine SX.region ?_
    refine SXL.move rfl ?_
    refine SXL.not rfl ?_
    refine SXL.nil ?_
    refine thenQ.normal ?_
    refine SX.condP rfl (fun c50 => ?_) (fun c50 => ?_)
    · refine SX.seq ?_
      refine SX.region ?_
      refine SXL.move rfl ?_
      refine SXL.assign rfl ?_
      refine SXL.nil ?_
      refine thenQ.normal ?_
      refine SX.ret ?_
      refine thenQ.ret ?_
      refine retQ.dead [] rfl ?_
      refine retQ.one (ResAt.tmp rfl) ?_
      exact congrArg Value.bool (decide_eq_true trivial)
    · refine SX.skip ?_
      refine thenQ.normal ?_
      refine SX.seq ?_
      obtain ⟨hrw, hll, htr⟩ := hfl (Decidable.not_not.1 c50)
      have ht : TrueP s := (true_iff hv).2 ⟨rain, _, hrw, htr.truth⟩
      have hTo : toldE s 0 = 0 := toldE_ok hv ⟨by omega, by omega⟩ ht
      have hT21 := toldL_max hTo
      have hmem : rain ∈ toldL s 0 := by rw [toldL_ok hTo]; exact truth_mem hv hrw htr.truth
      refine SX.region ?_
      refine SXL.loadNo 0 sh_27 rfl rfl rfl ?_
      refine SXL.call1 (.tuple ⟨[.bool (decide (SpP s ∧ TrueP s)), .int .i64 0]⟩) fn_18 rfl (fun w hI => (scan_any s bo ro bc rc (by omega) (by omega) _ (hg.inv hI) (hs.inv hI)).eqv (by rw [if_pos hv])) ?_
      refine SXL.move rfl ?_
      refine SXL.extract rfl rfl ?_
      refine SXL.extract rfl rfl ?_
      refine SXL.assign rfl ?_
      refine SXL.assign rfl ?_
      refine SXL.nil ?_
      refine thenQ.normal ?_
      refine SX.seq ?_
      refine SX.region ?_
      refine SXL.loadNo 0 sh_27 rfl rfl rfl ?_
      refine SXL.callF (IsR2 (toldL s 0) (toldE s 0)) fn_20 rfl (fun w hI => srains_any s bo ro bc rc (by omega) (by omega) w (hg.inv hI) (hs.inv hI)) ?_; rintro _ _ ⟨q1, u1, rfl, rfl⟩
      refine SXL.move rfl ?_
      refine SXL.extract rfl rfl ?_
      refine SXL.extract rfl rfl ?_
      refine SXL.assign rfl ?_
      refine SXL.assign rfl ?_
      refine SXL.nil ?_
      refine thenQ.normal ?_
      refine SX.seq ?_
      refine SX.seq ?_
      refine SX.region ?_
      refine SXL.move rfl ?_
      refine SXL.neqI rfl rfl ?_
      refine SXL.move rfl ?_
      apply SXL.orG 2
      case hl => exact rfl
      case hd => exact rfl
      case hg => exact rfl
      case ht =>
        intro g4
        refine SXL.pass rfl rfl rfl ?_
        refine SXL.pass rfl rfl rfl ?_
        exact SXL.nil (segQ.mk (.skip rfl (.skip rfl (.skip rfl (EnvSub.refl _)))) rfl rfl rfl)
      case hf =>
        intro g4
        refine SXL.move rfl ?_
        refine SXL.not rfl ?_
        exact SXL.nil (segQ.mk (.skip rfl (.skip rfl (.skip rfl (EnvSub.refl _)))) rfl rfl ⟨rfl, rfl⟩)
      refine SXL.move rfl ?_
      apply SXL.orG 2
      case hl => exact rfl
      case hd => exact rfl
      case hg => exact rfl
      case ht =>
        intro g5
        refine SXL.pass rfl rfl rfl ?_
        refine SXL.pass rfl rfl rfl ?_
        exact SXL.nil (segQ.mk (.skip rfl (.skip rfl (.skip rfl (EnvSub.refl _)))) rfl rfl rfl)
      case hf =>
        intro g5
        refine SXL.move rfl ?_
        refine SXL.neqI rfl rfl ?_
        exact SXL.nil (segQ.mk (.skip rfl (.skip rfl (.skip rfl (EnvSub.refl _)))) rfl rfl ⟨rfl, rfl⟩)
      refine SXL.move rfl ?_
      apply SXL.orG 4
      case hl => exact rfl
      case hd => exact rfl
      case hg => exact rfl
      case ht =>
        intro c77
        refine SXL.pass rfl rfl rfl ?_
        refine SXL.pass rfl rfl rfl ?_
        refine SXL.pass rfl rfl rfl ?_
        refine SXL.pass rfl rfl rfl ?_
        exact SXL.nil (segQ.mk (.skip rfl (.skip rfl (.skip rfl (.skip rfl (.skip rfl (EnvSub.refl _)))))) rfl rfl rfl)
      case hf =>
        intro c77
        refine SXL.move rfl ?_
        refine SXL.move rfl ?_
        refine SXL.call1 (.bool (decide (rain ∈ toldL s 0))) fn_57 rfl (fun w hI => has_any (toldL s 0) rain q1.addr q1.cap (by omega) _ (slOnes hI u1 (i := 2) rfl)) ?_
        refine SXL.not rfl ?_
        exact SXL.nil (segQ.mk (.skip rfl (.skip rfl (.skip rfl (.skip rfl (.skip rfl (EnvSub.refl _)))))) rfl rfl ⟨rfl, rfl⟩)
      refine SXL.nil ?_
      refine thenQ.normal ?_
      refine SX.condP rfl (fun c77 => ?_) (fun c77 => ?_)
      · exfalso; exact c77.elim (fun h => h.elim (fun h => h.elim (fun h => h rfl) (fun h => h ⟨hv, ht⟩)) (fun h => h hTo)) (fun h => h hmem)
      refine SX.skip ?_
      refine thenQ.normal ?_
      refine SX.seq ?_
      refine SX.region ?_
      refine SXL.move rfl ?_
      refine SXL.cv cv_5_3 rfl (by omega) ?_
      refine SXL.rem rfl rfl (by omega) ?_
      refine SXL.add rfl rfl (by omega) ?_
      refine SXL.assign rfl ?_
      refine SXL.nil ?_
      refine thenQ.normal ?_
      refine SX.seq ?_
      refine SX.seq ?_
      refine SX.region ?_
      refine SXL.move rfl ?_
      refine SXL.len is_35 rfl ?_
      refine SXL.move rfl ?_
      refine SXL.nil ?_
      refine thenQ.normal ?_
      refine SX.block ?_
      refine SX.loopW (α := Nat) [4, 8, 9, 11, 17, 82, 83] rfl (fun k => [(84, .int .i64 ((k : Int)))]) (fun k => [(b0, .cells ⟨[.int .i64 s.weeks, .int .i64 s.most, .int .i64 s.fall, .int .i64 s.a0, .int .i64 s.a1, .int .i64 s.w0, .int .i64 s.w1, (.slice bo s.book.length bc), (.slice ro s.reads.length rc)]⟩ 27 (0, 0)), q.ent 3 (ints l), q1.ent 3 (ints (toldL s 0))]) (fun k => []) (fun k => k ≤ l.length) (fun k => l.length - k) 0 (Nat.zero_le _) ⟨rfl, trivial⟩ rfl ?_
      rintro k hk0
      refine SX.seq ?_
      refine SX.region ?_
      refine SXL.lss rfl rfl ?_
      refine SXL.nil ?_
      refine thenQ.normal ?_
      refine SX.seq ?_
      refine SX.condP rfl (fun c8 => ?_) (fun c8 => ?_)
      · refine SX.skip ?_
        refine thenQ.normal ?_
        refine SX.seq ?_
        refine SX.block ?_
        refine SX.seq ?_
        have hk2 : k < l.length := by omega
        have hk : k < s.weeks.toNat := by omega
        have hek := (told_same hTo hk).1
        have hin := gives_in hTo hk
        have hgi : givesLo s k ≤ (l.getD k 0) ∧ (l.getD k 0) ≤ givesHi s k := truth_in hTo hrw htr.truth hk
        have hkn := known_in hTo hk hgi.2
        have hfe := fillE_at hTo hk (a := (1 + bucket % 40)) (by omega)
        refine SX.region ?_
        refine SXL.move rfl ?_
        refine SXL.indexSl 1 el_35 rfl rfl (by omega) rfl okl ?_; intro b9 hb9
        refine SXL.loadSl1 1 (v := .int .i64 (l.getD k 0)) sh_3 rfl hb9 rfl okl (by simp [ints, hk2]) ?_
        refine SXL.assign rfl ?_
        refine SXL.assign rfl ?_
        refine SXL.nil ?_
        refine thenQ.normal ?_
        refine SX.seq ?_
        refine SX.region ?_
        refine SXL.loadNo 0 sh_27 rfl rfl rfl ?_
        refine SXL.move rfl ?_
        refine SXL.call1 (.tuple ⟨[.agg ⟨[.int .i64 ((givesLo s (k : Int))), .int .i64 ((givesHi s (k : Int)))]⟩, .int .i64 (toldE s (k : Int))]⟩) fn_22 rfl (fun w hI => sgives_any s bo ro bc rc (k : Int) (by omega) (by omega) _ (hg.inv hI) (hs.inv hI)) ?_
        refine SXL.move rfl ?_
        refine SXL.extract rfl rfl ?_
        refine SXL.extract rfl rfl ?_
        refine SXL.alloc zp_23 ?_; intro b3
        refine SXL.store 3 sz_23 rfl rfl rfl rfl rfl rfl ?_
        refine SXL.assign rfl ?_
        refine SXL.nil ?_
        refine thenQ.normal ?_
        refine SX.seq ?_
        refine SX.region ?_
        refine SXL.loadNo 0 sh_27 rfl rfl rfl ?_
        refine SXL.move rfl ?_
        refine SXL.move rfl ?_
        refine SXL.call1 (.tuple ⟨[.int .u8 (knownV s k (l.getD k 0)), .int .i64 (toldE s k)]⟩) fn_24 rfl (fun w hI => sknown_any s bo ro bc rc (k : Int) (l.getD k 0) (by omega) (by omega) _ (hg.inv hI) (hs.inv hI)) ?_
        refine SXL.move rfl ?_
        refine SXL.extract rfl rfl ?_
        refine SXL.extract rfl rfl ?_
        refine SXL.assign rfl ?_
        refine SXL.assign rfl ?_
        refine SXL.nil ?_
        refine thenQ.normal ?_
        refine SX.seq ?_
        refine SX.seq ?_
        refine SX.region ?_
        refine SXL.move rfl ?_
        refine SXL.neqI rfl rfl ?_
        refine SXL.move rfl ?_
        apply SXL.orG 4
        case hl => exact rfl
        case hd => exact rfl
        case hg => exact rfl
        case ht =>
          intro g9
          refine SXL.pass rfl rfl rfl ?_
          refine SXL.pass rfl rfl rfl ?_
          refine SXL.pass rfl rfl rfl ?_
          refine SXL.pass rfl rfl rfl ?_
          exact SXL.nil (segQ.mk (.skip rfl (.skip rfl (.skip rfl (.skip rfl (.skip rfl (EnvSub.refl _)))))) rfl rfl rfl)
        case hf =>
          intro g9
          refine SXL.move rfl ?_
          refine SXL.loadNo 3 sh_23 rfl rfl rfl ?_
          refine SXL.call1 (.bool (decide (givesLo s k ≤ (l.getD k 0) ∧ (l.getD k 0) ≤ givesHi s k))) fn_58 rfl (fun w hI => inside_any (l.getD k 0) (givesLo s k) (givesHi s k) _) ?_
          refine SXL.not rfl ?_
          exact SXL.nil (segQ.mk (.skip rfl (.skip rfl (.skip rfl (.skip rfl (.skip rfl (EnvSub.refl _)))))) rfl rfl ⟨rfl, rfl⟩)
        refine SXL.move rfl ?_
        apply SXL.orG 2
        case hl => exact rfl
        case hd => exact rfl
        case hg => exact rfl
        case ht =>
          intro g10
          refine SXL.pass rfl rfl rfl ?_
          refine SXL.pass rfl rfl rfl ?_
          exact SXL.nil (segQ.mk (.skip rfl (.skip rfl (.skip rfl (EnvSub.refl _)))) rfl rfl rfl)
        case hf =>
          intro g10
          refine SXL.move rfl ?_
          refine SXL.neqI rfl rfl ?_
          exact SXL.nil (segQ.mk (.skip rfl (.skip rfl (.skip rfl (EnvSub.refl _)))) rfl rfl ⟨rfl, rfl⟩)
        refine SXL.move rfl ?_
        apply SXL.orG 2
        case hl => exact rfl
        case hd => exact rfl
        case hg => exact rfl
        case ht =>
          intro c117
          refine SXL.pass rfl rfl rfl ?_
          refine SXL.pass rfl rfl rfl ?_
          exact SXL.nil (segQ.mk (.skip rfl (.skip rfl (.skip rfl (EnvSub.refl _)))) rfl rfl rfl)
        case hf =>
          intro c117
          refine SXL.move rfl ?_
          refine SXL.eqlI rfl rfl ?_
          exact SXL.nil (segQ.mk (.skip rfl (.skip rfl (.skip rfl (EnvSub.refl _)))) rfl rfl ⟨rfl, rfl⟩)
        refine SXL.nil ?_
        refine thenQ.normal ?_
        refine SX.condP rfl (fun c117 => ?_) (fun c117 => ?_)
        · exfalso; omega
        refine SX.skip ?_
        refine thenQ.normal ?_
        refine SX.seq ?_
        refine SX.region ?_
        refine SXL.loadNo 0 sh_27 rfl rfl rfl ?_
        refine SXL.move rfl ?_
        refine SXL.move rfl ?_
        refine SXL.call1 (.tuple ⟨[.agg ⟨[.int .i64 ((fillLo s (k : Int) (1 + bucket % 40))), .int .i64 ((fillHi s (k : Int) (1 + bucket % 40)))]⟩, .int .i64 (fillE s (k : Int) (1 + bucket % 40))]⟩) fn_50 rfl (fun w hI => sfill_any s bo ro bc rc (k : Int) (1 + bucket % 40) (by omega) (by omega) _ (hg.inv hI) (hs.inv hI)) ?_
        refine SXL.move rfl ?_
        refine SXL.extract rfl rfl ?_
        refine SXL.extract rfl rfl ?_
        refine SXL.alloc zp_23 ?_; intro b4
        refine SXL.store 4 sz_23 rfl rfl rfl rfl rfl rfl ?_
        refine SXL.assign rfl ?_
        refine SXL.nil ?_
        refine thenQ.normal ?_
        refine SX.seq ?_
        refine SX.seq ?_
        refine SX.region ?_
        refine SXL.fieldAddr fp_23_0 rfl ?_
        refine SXL.load1o 3 sh_3 rfl rfl rfl ?_
        refine SXL.eqlI rfl rfl ?_
        refine SXL.nil ?_
        refine thenQ.normal ?_
        refine SX.condP rfl (fun c127 => ?_) (fun c127 => ?_)
        · refine SX.seq ?_
          refine SX.seq ?_
          refine SX.region ?_
          refine SXL.move rfl ?_
          refine SXL.neqI rfl rfl ?_
          refine SXL.nil ?_
          refine thenQ.normal ?_
          refine SX.condP rfl (fun c129 => ?_) (fun c129 => ?_)
          · exfalso; rw [if_pos c127] at hfe; exact c129 hfe
          refine SX.skip ?_
          refine thenQ.normal ?_
          refine SX.exit ?_
          refine thenQ.exit ?_
          refine blockQ.exit ?_
          refine thenQ.normal ?_
          refine SX.region ?_
          refine SXL.add rfl rfl (by omega) ?_
          refine SXL.move rfl ?_
          refine SXL.nil ?_
          refine thenQ.normal ?_
          refine ⟨k + 1, MeetsW.mkP _ ⟨rfl, trivial⟩ ⟨rfl, rfl, rfl, rfl, rfl, rfl, rfl, trivial⟩ rfl, (by omega), (by show l.length - (k + 1) < l.length - k; omega)⟩
        · refine SX.skip ?_
          refine thenQ.normal ?_
          refine SX.seq ?_
          have hlo : 1 ≤ givesLo s k := by omega
          rw [if_neg c127] at hfe
          obtain ⟨x1, x2, x3, x4, x5, x6⟩ := fill_facts hTo hk (a := (1 + bucket % 40)) (by omega) hlo
          obtain ⟨y1, y2, y3⟩ := fill_truth hTo hk (a := (1 + bucket % 40)) (by omega) hlo hgi
          refine SX.region ?_
          refine SXL.move rfl ?_
          refine SXL.neqI rfl rfl ?_
          refine SXL.move rfl ?_
          apply SXL.orG 3
          case hl => exact rfl
          case hd => exact rfl
          case hg => exact rfl
          case ht =>
            intro g15
            refine SXL.pass rfl rfl rfl ?_
            refine SXL.pass rfl rfl rfl ?_
            refine SXL.pass rfl rfl rfl ?_
            exact SXL.nil (segQ.mk (.skip rfl (.skip rfl (.skip rfl (.skip rfl (EnvSub.refl _))))) rfl rfl rfl)
          case hf =>
            intro g15
            refine SXL.fieldAddr fp_23_0 rfl ?_
            refine SXL.load1o 4 sh_3 rfl rfl rfl ?_
            refine SXL.lss rfl rfl ?_
            exact SXL.nil (segQ.mk (.skip rfl (.skip rfl (.skip rfl (.skip rfl (EnvSub.refl _))))) rfl rfl ⟨rfl, rfl⟩)
          refine SXL.move rfl ?_
          apply SXL.orG 5
          case hl => exact rfl
          case hd => exact rfl
          case hg => exact rfl
          case ht =>
            intro g16
            refine SXL.pass rfl rfl rfl ?_
            refine SXL.pass rfl rfl rfl ?_
            refine SXL.pass rfl rfl rfl ?_
            refine SXL.pass rfl rfl rfl ?_
            refine SXL.pass rfl rfl rfl ?_
            exact SXL.nil (segQ.mk (.skip rfl (.skip rfl (.skip rfl (.skip rfl (.skip rfl (.skip rfl (EnvSub.refl _))))))) rfl rfl rfl)
          case hf =>
            intro g16
            refine SXL.fieldAddr fp_23_0 rfl ?_
            refine SXL.load1o 4 sh_3 rfl rfl rfl ?_
            refine SXL.fieldAddr fp_23_1 rfl ?_
            refine SXL.load1o 4 sh_3 rfl rfl rfl ?_
            refine SXL.gtr rfl rfl ?_
            exact SXL.nil (segQ.mk (.skip rfl (.skip rfl (.skip rfl (.skip rfl (.skip rfl (.skip rfl (EnvSub.refl _))))))) rfl rfl ⟨rfl, rfl⟩)
          refine SXL.move rfl ?_
          apply SXL.orG 3
          case hl => exact rfl
          case hd => exact rfl
          case hg => exact rfl
          case ht =>
            intro g17
            refine SXL.pass rfl rfl rfl ?_
            refine SXL.pass rfl rfl rfl ?_
            refine SXL.pass rfl rfl rfl ?_
            exact SXL.nil (segQ.mk (.skip rfl (.skip rfl (.skip rfl (.skip rfl (EnvSub.refl _))))) rfl rfl rfl)
          case hf =>
            intro g17
            refine SXL.fieldAddr fp_23_1 rfl ?_
            refine SXL.load1o 4 sh_3 rfl rfl rfl ?_
            refine SXL.gtr rfl rfl ?_
            exact SXL.nil (segQ.mk (.skip rfl (.skip rfl (.skip rfl (.skip rfl (EnvSub.refl _))))) rfl rfl ⟨rfl, rfl⟩)
          refine SXL.move rfl ?_
          apply SXL.orG 7
          case hl => exact rfl
          case hd => exact rfl
          case hg => exact rfl
          case ht =>
            intro g18
            refine SXL.pass rfl rfl rfl ?_
            refine SXL.pass rfl rfl rfl ?_
            refine SXL.pass rfl rfl rfl ?_
            refine SXL.pass rfl rfl rfl ?_
            refine SXL.pass rfl rfl rfl ?_
            refine SXL.pass rfl rfl rfl ?_
            refine SXL.pass rfl rfl rfl ?_
            exact SXL.nil (segQ.mk (.skip rfl (.skip rfl (.skip rfl (.skip rfl (.skip rfl (.skip rfl (.skip rfl (.skip rfl (EnvSub.refl _))))))))) rfl rfl rfl)
          case hf =>
            intro g18
            refine SXL.fieldAddr fp_23_0 rfl ?_
            refine SXL.load1o 4 sh_3 rfl rfl rfl ?_
            refine SXL.move rfl ?_
            refine SXL.mul rfl rfl (by omega) ?_
            refine SXL.move rfl ?_
            refine SXL.mul rfl rfl (by omega) ?_
            refine SXL.gtr rfl rfl ?_
            exact SXL.nil (segQ.mk (.skip rfl (.skip rfl (.skip rfl (.skip rfl (.skip rfl (.skip rfl (.skip rfl (.skip rfl (EnvSub.refl _))))))))) rfl rfl ⟨rfl, rfl⟩)
          refine SXL.move rfl ?_
          apply SXL.orG 7
          case hl => exact rfl
          case hd => exact rfl
          case hg => exact rfl
          case ht =>
            intro c166
            refine SXL.pass rfl rfl rfl ?_
            refine SXL.pass rfl rfl rfl ?_
            refine SXL.pass rfl rfl rfl ?_
            refine SXL.pass rfl rfl rfl ?_
            refine SXL.pass rfl rfl rfl ?_
            refine SXL.pass rfl rfl rfl ?_
            refine SXL.pass rfl rfl rfl ?_
            exact SXL.nil (segQ.mk (.skip rfl (.skip rfl (.skip rfl (.skip rfl (.skip rfl (.skip rfl (.skip rfl (.skip rfl (EnvSub.refl _))))))))) rfl rfl rfl)
          case hf =>
            intro c166
            refine SXL.fieldAddr fp_23_1 rfl ?_
            refine SXL.load1o 4 sh_3 rfl rfl rfl ?_
            refine SXL.move rfl ?_
            refine SXL.mul rfl rfl (by omega) ?_
            refine SXL.move rfl ?_
            refine SXL.mul rfl rfl (by omega) ?_
            refine SXL.lss rfl rfl ?_
            exact SXL.nil (segQ.mk (.skip rfl (.skip rfl (.skip rfl (.skip rfl (.skip rfl (.skip rfl (.skip rfl (.skip rfl (EnvSub.refl _))))))))) rfl rfl ⟨rfl, rfl⟩)
          refine SXL.nil ?_
          refine thenQ.normal ?_
          refine SX.condP rfl (fun c166 => ?_) (fun c166 => ?_)
          · exfalso; omega
          refine SX.skip ?_
          refine blockQ.normal ?_
          refine thenQ.normal ?_
          refine SX.region ?_
          refine SXL.add rfl rfl (by omega) ?_
          refine SXL.move rfl ?_
          refine SXL.nil ?_
          refine thenQ.normal ?_
          refine ⟨k + 1, MeetsW.mkP _ ⟨rfl, trivial⟩ ⟨rfl, rfl, rfl, rfl, rfl, rfl, rfl, trivial⟩ rfl, (by omega), (by show l.length - (k + 1) < l.length - k; omega)⟩
      · refine SX.exit ?_
        refine thenQ.exit ?_
        refine thenQ.exit ?_
        refine blockQ.exit ?_
        refine thenQ.normal ?_
        refine SX.seq ?_
        obtain ⟨⟨bl1, bl2⟩, bp, br, _, _⟩ := best_facts hTo
        obtain ⟨sm1, sm2⟩ := truth_sums hTo hrw hll htr
        have hp3 : (bestL s 0 (poorI s)).length ≤ 10 ∧ ∀ i, i < (bestL s 0 (poorI s)).length → -1000 ≤ (bestL s 0 (poorI s)).getD i 0 ∧ (bestL s 0 (poorI s)).getD i 0 ≤ 1000 := ⟨by omega, fun i hi => by have := bp i hi; omega⟩
        have hr3 : (bestL s 10 (richI s)).length ≤ 10 ∧ ∀ i, i < (bestL s 10 (richI s)).length → -1000 ≤ (bestL s 10 (richI s)).getD i 0 ∧ (bestL s 10 (richI s)).getD i 0 ≤ 1000 := ⟨by omega, fun i hi => by have := br i hi; omega⟩
        have hl3 : l.length ≤ 10 ∧ ∀ i, i < l.length → -1000 ≤ l.getD i 0 ∧ l.getD i 0 ≤ 1000 := ⟨by omega, fun i hi => by have := (htr i (by omega)).1.1; omega⟩
        refine SX.region ?_
        refine SXL.loadNo 0 sh_27 rfl rfl rfl ?_
        refine SXL.callF (IsR3 (bestR s (poorI s)) (bestL s 0 (poorI s)) (toldE s 0)) fn_46 rfl (fun w hI => spoor_any s bo ro bc rc (by omega) (by omega) w (hg.inv hI) (hs.inv hI)) ?_; rintro _ _ ⟨q2, u2, rfl, rfl⟩
        refine SXL.move rfl ?_
        refine SXL.extract rfl rfl ?_
        refine SXL.extract rfl rfl ?_
        refine SXL.extract rfl rfl ?_
        refine SXL.assign rfl ?_
        refine SXL.assign rfl ?_
        refine SXL.assign rfl ?_
        refine SXL.nil ?_
        refine thenQ.normal ?_
        refine SX.seq ?_
        refine SX.region ?_
        refine SXL.loadNo 0 sh_27 rfl rfl rfl ?_
        refine SXL.callF (IsR3 (bestR s (richI s)) (bestL s 10 (richI s)) (toldE s 0)) fn_48 rfl (fun w hI => srich_any s bo ro bc rc (by omega) (by omega) w (hg.inv hI) (hs.inv hI)) ?_; rintro _ _ ⟨q3, u3, rfl, rfl⟩
        refine SXL.move rfl ?_
        refine SXL.extract rfl rfl ?_
        refine SXL.extract rfl rfl ?_
        refine SXL.extract rfl rfl ?_
        refine SXL.assign rfl ?_
        refine SXL.assign rfl ?_
        refine SXL.assign rfl ?_
        refine SXL.nil ?_
        refine thenQ.normal ?_
        refine SX.seq ?_
        refine SX.region ?_
        refine SXL.move rfl ?_
        refine SXL.move rfl ?_
        apply SXL.andG 2
        case hl => exact rfl
        case hd => exact rfl
        case hg => exact rfl
        case ht =>
          intro g21
          refine SXL.move rfl ?_
          refine SXL.eqlI rfl rfl ?_
          exact SXL.nil (segQ.mk (.skip rfl (.skip rfl (.skip rfl (EnvSub.refl _)))) rfl rfl ⟨rfl, rfl⟩)
        case hf =>
          intro g21
          refine SXL.pass rfl rfl rfl ?_
          refine SXL.pass rfl rfl rfl ?_
          exact SXL.nil (segQ.mk (.skip rfl (.skip rfl (.skip rfl (EnvSub.refl _)))) rfl rfl rfl)
        refine SXL.move rfl ?_
        apply SXL.andG 2
        case hl => exact rfl
        case hd => exact rfl
        case hg => exact rfl
        case ht =>
          intro g22
          refine SXL.move rfl ?_
          refine SXL.eqlI rfl rfl ?_
          exact SXL.nil (segQ.mk (.skip rfl (.skip rfl (.skip rfl (EnvSub.refl _)))) rfl rfl ⟨rfl, rfl⟩)
        case hf =>
          intro g22
          refine SXL.pass rfl rfl rfl ?_
          refine SXL.pass rfl rfl rfl ?_
          exact SXL.nil (segQ.mk (.skip rfl (.skip rfl (.skip rfl (EnvSub.refl _)))) rfl rfl rfl)
        refine SXL.move rfl ?_
        apply SXL.andG 5
        case hl => exact rfl
        case hd => exact rfl
        case hg => exact rfl
        case ht =>
          intro g23
          refine SXL.move rfl ?_
          refine SXL.len is_35 rfl ?_
          refine SXL.fieldAddr fp_27_0 rfl ?_
          refine SXL.load1o 0 sh_3 rfl rfl rfl ?_
          refine SXL.eqlI rfl rfl ?_
          exact SXL.nil (segQ.mk (.skip rfl (.skip rfl (.skip rfl (.skip rfl (.skip rfl (.skip rfl (EnvSub.refl _))))))) rfl rfl ⟨rfl, rfl⟩)
        case hf =>
          intro g23
          refine SXL.pass rfl rfl rfl ?_
          refine SXL.pass rfl rfl rfl ?_
          refine SXL.pass rfl rfl rfl ?_
          refine SXL.pass rfl rfl rfl ?_
          refine SXL.pass rfl rfl rfl ?_
          exact SXL.nil (segQ.mk (.skip rfl (.skip rfl (.skip rfl (.skip rfl (.skip rfl (.skip rfl (EnvSub.refl _))))))) rfl rfl rfl)
        refine SXL.move rfl ?_
        apply SXL.andG 5
        case hl => exact rfl
        case hd => exact rfl
        case hg => exact rfl
        case ht =>
          intro g24
          refine SXL.move rfl ?_
          refine SXL.len is_35 rfl ?_
          refine SXL.fieldAddr fp_27_0 rfl ?_
          refine SXL.load1o 0 sh_3 rfl rfl rfl ?_
          refine SXL.eqlI rfl rfl ?_
          exact SXL.nil (segQ.mk (.skip rfl (.skip rfl (.skip rfl (.skip rfl (.skip rfl (.skip rfl (EnvSub.refl _))))))) rfl rfl ⟨rfl, rfl⟩)
        case hf =>
          intro g24
          refine SXL.pass rfl rfl rfl ?_
          refine SXL.pass rfl rfl rfl ?_
          refine SXL.pass rfl rfl rfl ?_
          refine SXL.pass rfl rfl rfl ?_
          refine SXL.pass rfl rfl rfl ?_
          exact SXL.nil (segQ.mk (.skip rfl (.skip rfl (.skip rfl (.skip rfl (.skip rfl (.skip rfl (EnvSub.refl _))))))) rfl rfl rfl)
        refine SXL.move rfl ?_
        apply SXL.andG 5
        case hl => exact rfl
        case hd => exact rfl
        case hg => exact rfl
        case ht =>
          intro g25
          refine SXL.move rfl ?_
          refine SXL.call1 (.int .i64 (sumL (bestL s 0 (poorI s)))) fn_59 rfl (fun w hI => lsum_any (bestL s 0 (poorI s)) q2.addr q2.cap hp3 _ (slOnes hI u2 (i := 3) rfl)) ?_
          refine SXL.move rfl ?_
          refine SXL.call1 (.int .i64 (sumL l)) fn_59 rfl (fun w hI => lsum_any l q.addr q.cap hl3 _ (slOnes hI okl (i := 1) rfl)) ?_
          refine SXL.leq rfl rfl ?_
          exact SXL.nil (segQ.mk (.skip rfl (.skip rfl (.skip rfl (.skip rfl (.skip rfl (.skip rfl (EnvSub.refl _))))))) rfl rfl ⟨rfl, rfl⟩)
        case hf =>
          intro g25
          refine SXL.pass rfl rfl rfl ?_
          refine SXL.pass rfl rfl rfl ?_
          refine SXL.pass rfl rfl rfl ?_
          refine SXL.pass rfl rfl rfl ?_
          refine SXL.pass rfl rfl rfl ?_
          exact SXL.nil (segQ.mk (.skip rfl (.skip rfl (.skip rfl (.skip rfl (.skip rfl (.skip rfl (EnvSub.refl _))))))) rfl rfl rfl)
        refine SXL.move rfl ?_
        apply SXL.andG 5
        case hl => exact rfl
        case hd => exact rfl
        case hg => exact rfl
        case ht =>
          intro g26
          refine SXL.move rfl ?_
          refine SXL.call1 (.int .i64 (sumL l)) fn_59 rfl (fun w hI => lsum_any l q.addr q.cap hl3 _ (slOnes hI okl (i := 1) rfl)) ?_
          refine SXL.move rfl ?_
          refine SXL.call1 (.int .i64 (sumL (bestL s 10 (richI s)))) fn_59 rfl (fun w hI => lsum_any (bestL s 10 (richI s)) q3.addr q3.cap hr3 _ (slOnes hI u3 (i := 4) rfl)) ?_
          refine SXL.leq rfl rfl ?_
          exact SXL.nil (segQ.mk (.skip rfl (.skip rfl (.skip rfl (.skip rfl (.skip rfl (.skip rfl (EnvSub.refl _))))))) rfl rfl ⟨rfl, rfl⟩)
        case hf =>
          intro g26
          refine SXL.pass rfl rfl rfl ?_
          refine SXL.pass rfl rfl rfl ?_
          refine SXL.pass rfl rfl rfl ?_
          refine SXL.pass rfl rfl rfl ?_
          refine SXL.pass rfl rfl rfl ?_
          exact SXL.nil (segQ.mk (.skip rfl (.skip rfl (.skip rfl (.skip rfl (.skip rfl (.skip rfl (EnvSub.refl _))))))) rfl rfl rfl)
        refine SXL.assign rfl ?_
        refine SXL.nil ?_
        refine thenQ.normal ?_
        refine SX.ret ?_
        refine retQ.dead [] rfl ?_
        refine retQ.one (ResAt.tmp rfl) ?_
        exact congrArg Value.bool (decide_eq_true ⟨⟨⟨⟨⟨⟨trivial, hTo⟩, hTo⟩, by omega⟩, by omega⟩, sm1⟩, sm2⟩)
end Go.Proofs.YtknflipongbngaaDoor

/- SpringTruth: whatever the input, the law returns true and the input reads as it did. Its condition: the package's variables are as the program's text lays them (the card ties them). -/
namespace Go.Proofs.YtknflipongbngaaDoor.SpringTruth
open Go Go.X Go.S Go.RowKit Go.ChangeShapes Go.WideShapes Go.ChangeAt
set_option maxRecDepth 100000
/-- The door's own heap meets the condition. -/
theorem door_met (os : Os) (args : Array Value) : laidMetH Tryd.prog Rows.springTruthRow.laid ((World.doorLaid Tryd.prog 24 os).forCall (fun _ _ => 0) ⟨#[], args, []⟩).memory :=
  laidMetH_of_parts3 (fuel := 8) (laidMet_of_run' 8 (by kernel_rfl) (by kernel_rfl)) (by kernel_rfl) (by kernel_rfl)
theorem spec_fn (H : Type) (ds : List (DataW H)) (h : ds.length = Tryd.f7.params.toList.length) : Rows.springTruthSpec.fn H ds = { results := [.lit (.bool true)], args := ds } := by
  rw [Tryd.params7] at h
  match ds, h with
  | [e0, e1, e2, e3], _ => rfl
theorem contract (H : Type) (enc : TypeId × Value → H) (W : World) (base : Nat) (args : Array Value) (ds gs : List (DataW H)) (before : List MemPlace)
    (hval : ∀ (j : Nat) t v, Tryd.f7.params[j]? = some t → args[j]? = some v → Value.okWide Tryd.prog W .any base t v)
    (hW : DataW.Whole enc Tryd.prog Tryd.f7.params.toList Rows.springTruthSpec.vars false W args.toList ds gs before) (hL : laidMetH Tryd.prog Rows.springTruthRow.laid W) :
    Calls Tryd.prog 7 args W fun e W' => ∃ v, e = .returned v ∧ Rows.springTruthSpec.post enc Tryd.prog Tryd.f7 false true false false W args v W' := by
  have hW' := hW
  obtain ⟨p, q, hA0, hV, rfl, hfz, hnd⟩ := hW
  have hA : DataW.TrodAll enc Tryd.prog W 0 (fun _ => true) true Tryd.f7.params.toList args.toList ds p := hA0
  rw [Tryd.params7] at hA hval
  obtain ⟨v0, vs0, d0, ds0, p0, q0, hv0, rfl, hp0, h0, r0⟩ := trodAll_cons hA
  obtain ⟨v1, vs1, d1, ds1, p1, q1, hv1, rfl, hp1, h1, r1⟩ := trodAll_cons r0
  obtain ⟨v2, vs2, d2, ds2, p2, q2, hv2, rfl, hp2, h2, r2⟩ := trodAll_cons r1
  obtain ⟨v3, vs3, d3, ds3, p3, q3, hv3, rfl, hp3, h3, r3⟩ := trodAll_cons r2
  obtain ⟨hvn, rfl, hpn⟩ := trodAll_nil r3
  have hargs : args = #[v0, v1, v2, v3] := by cases args; simp_all
  subst hargs
  obtain ⟨cs0, rfl, hf0⟩ := arg_struct lay27 ⟨_, Tryd.underlying27⟩ (hval 0 27 _ rfl rfl) h0
  obtain ⟨s, bo, ro, bc, rc, rfl, hs⟩ := sp_of_fits hf0
  obtain ⟨first, rfl, bfirst⟩ := fit_u8 (arg_cell lay5 (by kernel_rfl) (hval 1 5 _ rfl rfl) h1)
  obtain ⟨yo, yc, by_, rfl, hy, hby⟩ := by_of_fit (arg_cell lay87 (by kernel_rfl) (hval 2 87 _ rfl rfl) h2)
  obtain ⟨bucket, rfl, bbucket⟩ := fit_u8 (arg_cell lay5 (by kernel_rfl) (hval 3 5 _ rfl rfl) h3)
  have hg : Gl W := ⟨checks_of_laid hL (by simp [Rows.springTruthRow]), none_of_laid hL rfl⟩
  refine Calls.mono (show Calls Tryd.prog 7 _ W _ from truth_law s bo ro bc rc first bucket bfirst bbucket by_ yo yc hby W hg hs hy) ?_
  rintro e W' ⟨v, own, rfl, hI, rfl⟩
  exact ⟨_, rfl, law_post laidOut (by rw [Tryd.params7]; kernel_rfl) rfl (spec_fn H) (tb := 4) (by kernel_rfl) Tryd.underlying4 hW' hI.below⟩
theorem lifted (os : Os) (started : os.Started) (H : Type) (enc : TypeId × Value → H) :
    ReturnsInHanded {} Tryd.checked os 7 .any (fun w args => (Rows.springTruthSpec.pre enc Tryd.prog Tryd.f7 [] false w args ∧ laidMetH Tryd.prog Rows.springTruthRow.laid w) ∧ sizedMet enc Tryd.prog Tryd.f7 (OpenSpec.ofChange Rows.springTruthSpec) false w args)
      (Rows.springTruthSpec.post enc Tryd.prog Tryd.f7 false true false false) := by
  refine returnsInHanded_of_change_and (C := Tryd.checked) (X := fun w _ => laidMetH Tryd.prog Rows.springTruthRow.laid w) (fun _ _ _ hh h => h.of_heap hh) ownGd started (by kernel_rfl) Tryd.func7
    (ChangeSpec.witness_shaped (enc := enc) (C := Tryd.checked) (os := os) (X := fun w _ => laidMetH Tryd.prog Rows.springTruthRow.laid w) false (World.doorLaid Tryd.prog 24 os) #[.agg ⟨[.int .i64 0, .int .i64 0, .int .i64 0, .int .i64 0, .int .i64 0, .int .i64 0, .int .i64 0, .slice none 0 0, .slice none 0 0]⟩, .int .u8 0, .slice none 0 0, .int .u8 0] 8 rfl (World.shaped_of_RefB (by kernel_rfl) (by kernel_rfl)) (by kernel_rfl) (by kernel_rfl) (by kernel_rfl) (door_met os _)) ?_
  intro W base args ds gs before hval0 hW _ _ hL _
  exact contract H enc W base args ds gs before hval0 hW hL
theorem said : Rows.SpringTruthSaid :=
  OpenClaim.holds_of_wide 7 Tryd.f7 rfl rfl rfl rfl rfl rfl rfl ⟨rfl, rfl, rfl, rfl, rfl⟩ rfl rfl rfl rfl rfl (by kernel_rfl) Tryd.func7 (by kernel_rfl)
    (of_decide_eq_true (by kernel_rfl)) (by unfold Func.isWrapper; first | (rw [if_pos (by decide +kernel)]; kernel_rfl) | (rw [if_neg (by decide +kernel)]; exact ⟨rfl, rfl⟩))
    (fun os started H enc _ => lifted os started H enc)
theorem plain (f : FuncId) (fn : Func) (hf : Tryd.pinned.checked.prog.funcNamed "aguador/aguadorlaw01.SpringTruth" = some f) (hfn : Tryd.pinned.checked.prog.funcs[f]? = some fn) :
    false = Tryd.pinned.checked.prog.looks [] ∧ ∀ (j : Nat) t, fn.params[j]? = some t → Tryd.pinned.checked.prog.wantsStandIn t = false := by
  obtain rfl : f = 7 := Option.some.inj ((show Tryd.prog.funcNamed "aguador/aguadorlaw01.SpringTruth" = some 7 by kernel_rfl).symm.trans hf) |>.symm
  obtain rfl : fn = Tryd.f7 := (Option.some.inj (Tryd.func7.symm.trans hfn)).symm
  refine ⟨by kernel_rfl, fun j t ht => ?_⟩
  rw [Tryd.params7] at ht
  have hm : t ∈ ([27, 5, 87, 5] : List TypeId) := by simpa using Array.mem_of_getElem? ht
  have hall : (([27, 5, 87, 5] : List TypeId).all fun u => !Tryd.prog.wantsStandIn u) = true := by kernel_rfl
  exact (show Tryd.prog.wantsStandIn t = false by simpa using List.all_eq_true.1 hall t hm)
theorem springTruth_card : Rows.SpringTruthCardSaid :=
  Claim7.holds_tied_plain_at .later [] _ _ _ _ said (fun _ h => by cases h) (by kernel_rfl) (fun _ h => by cases h) springTruth_row_tie rfl ⟨rfl, rfl⟩ (by kernel_rfl) rfl plain (by kernel_rfl)
end Go.Proofs.YtknflipongbngaaDoor.SpringTruth
