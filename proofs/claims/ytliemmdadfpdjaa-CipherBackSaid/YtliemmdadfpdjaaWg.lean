/-
  Walk: the 64 bytes of a key, a nonce and a counter.
-/
import Derived.Test.YtliemmdadfpdjaaWf
namespace Go.Proofs.Ytliemmdadfpdjaa
open Go.RowKit
set_option maxHeartbeats 1000000
set_option linter.unusedVariables false
set_option linter.unusedSimpArgs false

theorem el27 : Elem Try.prog 27 5 1 1 := Elem.of (.int .u8 0) rfl (by kernel_rfl) rfl (by omega)
theorem blockM_length (l : List UInt32) : (blockM l).length = 64 := by simp [blockM]

/-- bytes and no error -/
def BytesOk (w : World) (l : List UInt8) (e : Ending) (w' : World) : Prop :=
  ∃ oa n c, e = .returned (.tuple #[.slice oa n c, .int .i64 0]) ∧ Reads w' oa n l ∧ n ≤ c ∧ c ≤ maxLen ∧ Below w.heap.size w w'

theorem block10_bad (vc : Value) (w : World) (ok on : Option Addr) (n c m d : Nat) (h : ¬ (n = 32 ∧ m = 12)) :
    Calls Try.prog 10 #[.slice ok n c, .slice on m d, vc] w fun r w' => r = .returned (.tuple #[.slice none 0 0, .int .i64 2]) ∧ w' = w := by
  have h' : (decide (n = 32) && decide (m = 12)) = false := by
    rw [Bool.and_eq_false_iff]
    by_cases h1 : n = 32
    · exact .inr (decide_eq_false (fun h2 => h ⟨h1, h2⟩))
    · exact .inl (decide_eq_false h1)
  have H := Lib.hid h'; clear h h'
  go_enter Try.func10, Try.ntmps10
  go_wp2_with fail
  refine (fits16 ok on n m c d w).mono ?_
  rintro r w' ⟨rfl, hw'⟩
  rw [hw', H.out]; clear hw' w'
  go_wp2
  refine bodyPost_ret (v := .tuple #[.slice none 0 0, .int .i64 2]) (by simp [results, Try.results10, go_sem]) rfl ⟨rfl, rfl⟩

theorem block10 (key nonce : List UInt8) (ctr : UInt32) (w : World) (ok on : Option Addr) (n c m d : Nat) (hk : Reads w ok n key) (hn : Reads w on m nonce) (hlk : key.length = 32) (hln : nonce.length = 12) (hc : n ≤ c) (hd : m ≤ d) :
    Calls Try.prog 10 #[.slice ok n c, .slice on m d, .int .u32 (ctr.toNat : Int)] w (BytesOk w (blockM (firstM key nonce ctr))) := by
  obtain rfl : n = 32 := hk.len.trans hlk
  obtain rfl : m = 12 := hn.len.trans hln
  have HK := Lib.hid hk; have HN := Lib.hid hn; clear hk hn
  have HLK := Lib.hid hlk; have HLN := Lib.hid hln; clear hlk hln
  have HC := Lib.hid hc; have HD := Lib.hid hd; clear hc hd
  go_enter Try.func10, Try.ntmps10
  go_wp2_with fail
  refine (fits16 ok on 32 12 c d w).mono ?_
  rintro r w' ⟨rfl, hw'⟩
  rw [hw', show (decide (32 = 32) && decide (12 = 12)) = true from rfl]; clear hw' w'
  go_wp2_with fail
  refine (first18 key nonce ctr w ok on 32 c 12 d HK.out HN.out HLK.out HLN.out HC.out HD.out).mono ?_
  rintro r w1 ⟨rfl, hb1⟩
  go_wp2_with fail
  refine (block17 (firstM key nonce ctr) (firstM_length _ _ _) w1).mono ?_
  rintro r w2 ⟨rfl, hb2⟩
  have hbb := below_step hb1 hb2
  clear hb1 hb2
  have hlb := blockM_length (firstM key nonce ctr)
  generalize blockM (firstM key nonce ctr) = bl at *
  have hrow : RowTy Try.prog 46 (bl.map By).length := row46' (by simp [hlb])
  have hT : Blk (w2.alloc (.cells z64.toArray 46)) w2.heap.size z64 := Blk.new' rfl
  have hb2 : Below w.heap.size w (w2.alloc (.cells z64.toArray 46)) := hbb.alloc hbb.size _
  have HLB := Lib.hid hlb; clear hlb
  go_wp2_with (first | (refine stop_store rfl ?_))
  refine ⟨wpList_store_blk rfl rfl hT (by rfl) (by rfl) hrow (by simp [HLB.out, z64]) (By_oneCell _) ?_⟩
  intro w3 hT3 hg3
  have hb3 := Below.grownB hb2 hg3 hbb.size hb2.size
  clear hT hb2 hg3 hrow
  go_wp2_with (first | (refine stop_append rfl ?_))
  have h0 := Own.lit w3 [] 5 1 0 (by simp [maxLen]) rfl w3.heap.size (Nat.le_refl _)
  refine ⟨wpList_app el27 rfl rfl (by rfl) h0 (by rfl) (m := 64) (by simp [HLB.out]) (hT3.cells.alloc _) (By_oneCell _) (by simp [maxLen]) (by omega) (by simp) ?_⟩
  intro v w4 hown hg
  have hb4 := h0.below hg (hb3.alloc hb3.size (.cells #[] 5)) hb3.size (by simp)
  obtain ⟨o4, c4, rfl, hn4, hm4, hc4, -⟩ := hown.cells
  clear hown hg h0 hb3 hT3
  go_wp2
  refine bodyPost_ret (v := .tuple #[.slice o4 (0 + 64) c4, .int .i64 0]) (by simp [results, Try.results10, go_sem]) rfl ⟨o4, 0 + 64, c4, rfl, ⟨by simp [HLB.out], by simpa using hc4⟩, hn4, hm4, hb4⟩
end Go.Proofs.Ytliemmdadfpdjaa
