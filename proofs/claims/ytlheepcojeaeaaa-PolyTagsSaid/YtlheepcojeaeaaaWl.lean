/-
  Walks: whether a tag is a text's; the chapter's example.
-/
import Derived.Test.YtlheepcojeaeaaaWj
import Derived.Test.YtlheepcojeaeaaaWk
namespace Go.Proofs.Ytlheepcojeaeaaa
open Go.RowKit
set_option maxHeartbeats 1000000
set_option linter.unusedVariables false
set_option linter.unusedSimpArgs false

theorem check9_bad (key tag : List UInt8) (vm : Value) (w : World) (ok ot : Option Addr) (n c nt ct : Nat) (hk : Reads w ok n key) (hl : ¬ key.length = 32) :
    Calls Try.prog 9 #[.slice ok n c, vm, .slice ot nt ct] w fun r w' => r = .returned (.bool false) ∧ w' = w := by
  have HK := Lib.hid hk; have HL := Lib.hid hl; clear hk hl
  go_enter Try.func9, Try.ntmps9
  go_wp2_with fail
  refine (tag7_bad key vm w ok n c HK.out HL.out).mono ?_
  rintro r w' ⟨rfl, rfl⟩
  go_wp2
  refine bodyPost_ret (v := .bool false) (by simp [results, Try.results9, go_sem]) rfl ⟨rfl, rfl⟩

theorem check9 (key msg tag : List UInt8) (w : World) (ok om ot : Option Addr) (nk ck nm cm nt ct : Nat) (hk : Reads w ok nk key) (hm : Reads w om nm msg) (ht : Reads w ot nt tag) (hl : key.length = 32) (hck : nk ≤ ck) (hckm : ck ≤ maxLen) (hcm : nm ≤ cm) (hcmm : cm ≤ maxLen) (hmx : msg.length ≤ 1000000) (htx : tag.length ≤ 1000000) :
    Calls Try.prog 9 #[.slice ok nk ck, .slice om nm cm, .slice ot nt ct] w fun r w' => r = .returned (.bool (decide (tagM key msg = tag))) ∧ Below w.heap.size w w' := by
  obtain rfl : nt = tag.length := ht.len
  have HK := Lib.hid hk; have HM := Lib.hid hm; have HT := Lib.hid ht
  have HF := Lib.hid (And.intro hl (And.intro hck (And.intro hckm (And.intro hcm (And.intro hcmm (And.intro hmx htx))))))
  clear hk hm ht hl hck hckm hcm hcmm hmx htx
  go_enter Try.func9, Try.ntmps9
  go_wp2_with fail
  refine (tag7 key msg w ok om nk ck nm cm HK.out HM.out HF.out.1 HF.out.2.1 HF.out.2.2.1 HF.out.2.2.2.1 HF.out.2.2.2.2.1 HF.out.2.2.2.2.2.1).mono ?_
  rintro r w1 ⟨g, rfl, hg, hB, hb⟩
  go_wp2_with fail
  have hlt : (tagM key msg).length = 16 := by simp [tagM, sumM]
  have HLT := Lib.hid hlt
  have HC : Hid (Calls Try.prog 23 #[.slice (some ⟨g, 0, none⟩) 16 16, .slice ot tag.length ct] w1 fun e w' => e = .returned (.bool (decide (tagM key msg = tag))) ∧ Below w1.heap.size w1 w') := by
    have := bytes_any (some ⟨g, 0, none⟩) ot (tagM key msg) tag 16 ct w1 hB.cells (HT.out.cells.below hb (Nat.le_refl _)) (by omega) (by have := HF.out; omega)
    rw [hlt] at this
    exact this
  clear hlt
  refine HC.out.mono ?_
  rintro r w2 ⟨rfl, hb2⟩
  have hb3 := below_step hb hb2
  obtain ⟨d, hd⟩ : ∃ d, decide (tagM key msg = tag) = d := ⟨_, rfl⟩
  rw [hd]
  have HD : Hid (Ending.returned (Value.bool d) = Ending.returned (Value.bool (decide (tagM key msg = tag)))) := by rw [hd]; rfl
  clear hd
  go_wp2
  refine bodyPost_ret (v := .bool d) (by simp [results, Try.results9, go_sem]) rfl ⟨HD.out, hb3⟩

def keyL : List UInt8 := [133, 214, 190, 120, 87, 85, 109, 51, 127, 68, 82, 254, 66, 213, 6, 168, 1, 3, 128, 138, 251, 13, 178, 253, 74, 191, 246, 175, 65, 73, 245, 27]
def msgL : List UInt8 := [67, 114, 121, 112, 116, 111, 103, 114, 97, 112, 104, 105, 99, 32, 70, 111, 114, 117, 109, 32, 82, 101, 115, 101, 97, 114, 99, 104, 32, 71, 114, 111, 117, 112]
def tagL : List UInt8 := [168, 6, 29, 193, 48, 81, 54, 198, 194, 43, 139, 175, 12, 1, 39, 169]
theorem example_tag : tagM keyL msgL = tagL := by decide +kernel

theorem tagL_list : (str tagL).toList = [168, 6, 29, 193, 48, 81, 54, 198, 194, 43, 139, 175, 12, 1, 39, 169] := by decide +kernel

theorem works6 (w : World) : Calls Try.prog 6 #[] w fun r w' => r = .returned (.bool true) ∧ Below w.heap.size w w' := by
  obtain ⟨c1, w1, hrun1, hr1, hc1, hm1, hb1⟩ := run_bytes_of (P := Try.prog) w 9 23 5 ⟨#[133, 214, 190, 120, 87, 85, 109, 51, 127, 68, 82, 254, 66, 213, 6, 168, 1, 3, 128, 138, 251, 13, 178, 253, 74, 191, 246, 175, 65, 73, 245, 27]⟩ rfl rfl rfl (by simp [ByteArray.size, maxLen])
  have HR1 : Hid (Reads w1 (some ⟨w.heap.size, 0, none⟩) 32 keyL) := hr1
  have HF1 : Hid (32 ≤ c1 ∧ c1 ≤ maxLen) := ⟨hc1, hm1⟩
  have HB1 := Lib.hid hb1
  clear hr1 hc1 hm1 hb1
  go_enter Try.func6, Try.ntmps6
  go_wp2_with fail
  have hcv : (convert 23 23 (.slice (some ⟨w1.heap.size, 0, none⟩) 34 34)).run Try.prog (w1.alloc (.cells #[.int .u8 67, .int .u8 114, .int .u8 121, .int .u8 112, .int .u8 116, .int .u8 111, .int .u8 103, .int .u8 114, .int .u8 97, .int .u8 112, .int .u8 104, .int .u8 105, .int .u8 99, .int .u8 32, .int .u8 70, .int .u8 111, .int .u8 114, .int .u8 117, .int .u8 109, .int .u8 32, .int .u8 82, .int .u8 101, .int .u8 115, .int .u8 101, .int .u8 97, .int .u8 114, .int .u8 99, .int .u8 104, .int .u8 32, .int .u8 71, .int .u8 114, .int .u8 111, .int .u8 117, .int .u8 112] 5)) = .ok (.slice (some ⟨w1.heap.size, 0, none⟩) 34 34) (w1.alloc (.cells (msgL.map By).toArray 5 (34, 35))) := run_convert_same w1 23 5 (msgL.map By) 34 rfl rfl
  have HM2 : Hid (Reads (w1.alloc (.cells (msgL.map By).toArray 5 (34, 35))) (some ⟨w1.heap.size, 0, none⟩) 34 msgL) := ⟨rfl, Cells.new⟩
  go_wp2_with fail
  clear hrun1 hcv
  refine (tag7 keyL msgL _ _ _ 32 c1 34 34 (HR1.out.below ((Below.refl _ _).alloc (Nat.le_refl _) _)) HM2.out rfl HF1.out.1 HF1.out.2 (Nat.le_refl _) (by simp [maxLen]) (by decide)).mono ?_
  rintro r w2 ⟨g2, rfl, hg2, hB2, hb2⟩
  have hbb2 : Below w.heap.size w w2 := below_step (below_step HB1.out ((Below.refl _ _).alloc (Nat.le_refl _) _)) hb2
  clear hb2 HM2 hg2 HR1 HF1
  rw [example_tag] at hB2
  have HB2 := Lib.hid hB2; have HBB2 := Lib.hid hbb2
  clear hB2 hbb2
  go_wp2_with fail
  refine (tag7_bad [] _ w2 none 0 0 ⟨rfl, Cells.nil _ _⟩ (by simp)).mono ?_
  rintro r w3 ⟨rfl, rfl⟩
  have hst : ∀ (W : World), Hid (W = w3) → (convert 23 9 (.slice (some ⟨g2, 0, none⟩) 16 16)).run Try.prog W = .ok (.string (str tagL)) W := fun W hW => by
    have e : W = w3 := hW.out
    subst e
    exact run_convert_cells W 23 9 5 rfl rfl rfl (some ⟨g2, 0, none⟩) tagL 16 16 rfl HB2.out.cells
  have hst3 := hst w3 rfl
  obtain ⟨c4, w4, hrun4, hr4, hc4, hm4, hb4⟩ := run_bytes_of (P := Try.prog) w3 9 23 5 ⟨#[133, 214, 190, 120, 87, 85, 109, 51, 127, 68, 82, 254, 66, 213, 6, 168, 1, 3, 128, 138, 251, 13, 178, 253, 74, 191, 246, 175, 65, 73, 245, 27]⟩ rfl rfl rfl (by simp [ByteArray.size, maxLen])
  have HR4 : Hid (Reads w4 (some ⟨w3.heap.size, 0, none⟩) 32 keyL) := hr4
  have HF4 : Hid (32 ≤ c4 ∧ c4 ≤ maxLen) := ⟨hc4, hm4⟩
  have HB4 := Lib.hid hb4
  clear hr4 hc4 hm4 hb4 hst
  have hcv : (convert 23 23 (.slice (some ⟨w4.heap.size, 0, none⟩) 34 34)).run Try.prog (w4.alloc (.cells #[.int .u8 67, .int .u8 114, .int .u8 121, .int .u8 112, .int .u8 116, .int .u8 111, .int .u8 103, .int .u8 114, .int .u8 97, .int .u8 112, .int .u8 104, .int .u8 105, .int .u8 99, .int .u8 32, .int .u8 70, .int .u8 111, .int .u8 114, .int .u8 117, .int .u8 109, .int .u8 32, .int .u8 82, .int .u8 101, .int .u8 115, .int .u8 101, .int .u8 97, .int .u8 114, .int .u8 99, .int .u8 104, .int .u8 32, .int .u8 71, .int .u8 114, .int .u8 111, .int .u8 117, .int .u8 112] 5)) = .ok (.slice (some ⟨w4.heap.size, 0, none⟩) 34 34) (w4.alloc (.cells (msgL.map By).toArray 5 (34, 35))) := run_convert_same w4 23 5 (msgL.map By) 34 rfl rfl
  have htl := tagL_list
  have HM4 : Hid (Reads (w4.alloc (.cells (msgL.map By).toArray 5 (34, 35))) (some ⟨w4.heap.size, 0, none⟩) 34 msgL) := ⟨rfl, Cells.new⟩
  go_wp2_with fail
  have hfin : Below w4.heap.size w4 (w4.alloc (.cells (msgL.map By).toArray 5 (34, 35))) := (Below.refl _ _).alloc (Nat.le_refl _) _
  have hCk := check9 keyL msgL tagL (w4.alloc (.cells (msgL.map By).toArray 5 (34, 35))) (some ⟨w3.heap.size, 0, none⟩) (some ⟨w4.heap.size, 0, none⟩) (some ⟨g2, 0, none⟩) 32 c4 34 34 16 16 (HR4.out.below hfin) HM4.out ⟨rfl, (HB2.out.cells.below HB4.out (Nat.le_refl _)).below hfin (Nat.le_refl _)⟩ rfl HF4.out.1 HF4.out.2 (Nat.le_refl _) (by simp [maxLen]) (by decide) (by decide)
  refine hCk.mono ?_
  rintro r w5 ⟨rfl, hb5⟩
  have hend : Below w.heap.size w w5 := below_step (below_step (below_step HBB2.out HB4.out) hfin) hb5
  rw [example_tag, decide_eq_true rfl]
  clear hrun4 hcv hst3 hCk hb5 hfin
  go_wp2
  refine bodyPost_ret (v := .bool true) (by simp [results, Try.results6, go_sem]) rfl ⟨rfl, hend⟩
end Go.Proofs.Ytlheepcojeaeaaa
