/- Springs, lines, readings in memory. -/
import Derived.Test.YtknflipongbngaaDoorXData
import Derived.Test.YtknflipongbngaaDoorP1
namespace Go.S
open Go Go.X
def Ln.cells (x : Ln) : List Value := [.int .i64 x.r0, .int .i64 x.r1, .int .i64 x.wk, .int .i64 x.g0, .int .i64 x.g1]
def Rd.cells (x : Rd) : List Value := [.int .i64 x.num, .int .i64 x.wk, .int .i64 x.bu, .int .i64 x.s0, .int .i64 x.s1]
theorem _root_.Go.X.Mem.sub {w0 : World} {own : X.Own} {b off j k : Nat} {vs us : List Value} (h : Mem w0 own b off vs) (hj : takeAt vs j k = some us) : Mem w0 own b (off + j) us := by
  intro w hI i v hi
  obtain ⟨h1, h2⟩ := takeAt_spec hj
  have hik : i < k := by
    have := (List.getElem?_eq_some_iff.1 hi).1
    omega
  have := h w hI (j + i) v (by rw [h2 i hik]; exact hi)
  rwa [show off + (j + i) = off + j + i by omega] at this
/-- A spring's two slices in memory. -/
structure SpAt (w : World) (s : Sp) (bo ro : Option Addr) : Prop where
  book : RowsAt w bo 5 (s.book.map Ln.cells)
  reads : RowsAt w ro 5 (s.reads.map Rd.cells)
variable {w0 w : World} {own : X.Own} {s : Sp} {bo ro : Option Addr}
theorem SpAt.inv (h : SpAt w0 s bo ro) (hI : Inv w0 own w) : SpAt w s bo ro := ⟨h.book.inv hI, h.reads.inv hI⟩
theorem SpAt.line (h : SpAt w s bo ro) {i : Nat} (hi : i < s.book.length) :
    ∃ b o, bo = some ⟨b, o, none⟩ ∧ ∀ own, Mem w own b (o + i * 5) s.book[i].cells := h.book.get (by simp [hi])
theorem SpAt.read (h : SpAt w s bo ro) {i : Nat} (hi : i < s.reads.length) :
    ∃ b o, ro = some ⟨b, o, none⟩ ∧ ∀ own, Mem w own b (o + i * 5) s.reads[i].cells := h.reads.get (by simp [hi])
theorem SpAt.readI (h : SpAt w s bo ro) {i : Int} (h0 : 0 ≤ i) (hi : i < s.reads.length) :
    ∃ b o, ro = some ⟨b, o, none⟩ ∧ ∀ own, Mem w own b (o + i.toNat * 5) (s.reads.getD i.toNat default).cells := by
  have hn : i.toNat < s.reads.length := by omega
  obtain ⟨b, o, h1, h2⟩ := h.read hn
  refine ⟨b, o, h1, fun own => ?_⟩
  have := h2 own
  rwa [show s.reads[i.toNat] = s.reads.getD i.toNat default from by simp [hn]] at this
end Go.S
