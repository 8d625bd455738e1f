/-
  Windows as data.
-/
import Derived.Test.YtbkgjijhjlcojaaOpen
namespace Go.Proofs.Ytbkgjijhjlcojaa
open Go.RowKit

structure Win where
  top : Int
  lo : UInt64
  hi : UInt64

def Win.cells (a : Win) : List Value := [.int .i64 a.top, .int .u64 (a.lo.toNat : Int), .int .u64 (a.hi.toNat : Int)]

theorem win_of {P : Program} {w : World} {cs : List Value} (h : Fits P w [.i .i64, .i .u64, .i .u64] cs) : ∃ a : Win, cs = a.cells ∧ I64 a.top := by
  obtain ⟨v0, r, rfl, h0, h⟩ := fits_cons h
  obtain ⟨v1, r, rfl, h1, h⟩ := fits_cons h
  obtain ⟨v2, r, rfl, h2, h⟩ := fits_cons h
  obtain rfl := fits_nil h
  obtain ⟨n, rfl, hn⟩ := leaf_i64 h0
  obtain ⟨a, rfl⟩ := leaf_u64 h1
  obtain ⟨b, rfl⟩ := leaf_u64 h2
  exact ⟨⟨n, a, b⟩, rfl, hn⟩
end Go.Proofs.Ytbkgjijhjlcojaa
