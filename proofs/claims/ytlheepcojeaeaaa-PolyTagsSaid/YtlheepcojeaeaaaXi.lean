/-
  Walks of the document's answer: whether a tag is a text's; both answers side by side.
-/
import Derived.Test.YtlheepcojeaeaaaXh
import Derived.Test.YtlheepcojeaeaaaWl
namespace Go.Proofs.Ytlheepcojeaeaaa
open Go.RowKit Go.Proofs.Ytlheepcojeaeaaa.PlanB Go.Proofs.Ytlheepcojeaeaaa.Eager
set_option maxHeartbeats 1000000
set_option maxRecDepth 4000
set_option linter.unusedVariables false
set_option linter.unusedSimpArgs false

theorem str_inj {a b : List UInt8} (h : str a = str b) : a = b := by
  have := congrArg ByteArray.data h
  simpa [str] using this
theorem strpeq (a b : ByteArray) : (a.toList = b.toList) ↔ a = b := by
  rw [ByteArray.toList_eq, ByteArray.toList_eq]
  constructor
  · intro h
    cases a; cases b
    simpa using h
  · rintro rfl; rfl
theorem check10 (key msg tag : List UInt8) (w : World) (ok om ot : Option Addr) (nk ck nm cm nt ct : Nat) (hk : Reads w ok nk key) (hm : Reads w om nm msg) (ht : Reads w ot nt tag) (hl : key.length = 32) (hck : nk ≤ ck) (hckm : ck ≤ maxLen) (hcm : nm ≤ cm) (hcmm : cm ≤ maxLen) (hmx : msg.length ≤ 1000000) :
    Calls Try.prog 10 #[.slice ok nk ck, .slice om nm cm, .slice ot nt ct] w fun r w' => r = .returned (.bool (decide (tagM key msg = tag))) ∧ Below w.heap.size w w' := by
  obtain rfl : nt = tag.length := ht.len
  have HK := Lib.hid hk; have HM := Lib.hid hm; have HT := Lib.hid ht
  have HF := Lib.hid (And.intro hl (And.intro hck (And.intro hckm (And.intro hcm (And.intro hcmm hmx)))))
  clear hk hm ht hl hck hckm hcm hcmm hmx
  go_enter Try.func10, Try.ntmps10
  go_wp2_with fail
  refine (tag8 key msg w ok om nk ck nm cm HK.out HM.out HF.out.1 HF.out.2.1 HF.out.2.2.1 HF.out.2.2.2.1 HF.out.2.2.2.2.1 HF.out.2.2.2.2.2).mono ?_
  rintro r w1 ⟨g, rfl, hg, hB, hb⟩
  have hlt : (tagM key msg).length = 16 := by simp [tagM, sumM]
  have hx1 := run_convert_cells (P := Try.prog) w1 23 9 5 rfl rfl rfl (some ⟨g, 0, none⟩) (tagM key msg) 16 16 hlt.symm hB.cells
  have hx2 := run_convert_cells (P := Try.prog) w1 23 9 5 rfl rfl rfl ot tag tag.length ct rfl (HT.out.cells.below hb (Nat.le_refl _))
  have HB := Lib.hid hb
  clear hlt hB hb hg
  by_cases he : tagM key msg = tag
  · have HE := Lib.hid he
    rw [he] at hx1
    clear he
    go_wp2
    refine bodyPost_ret (v := .bool true) (by simp [results, Try.results10, go_sem]) rfl ⟨by rw [HE.out, decide_eq_true rfl], HB.out⟩
  · have HE := Lib.hid he
    have hne : ¬ (str (tagM key msg)).toList = (str tag).toList := fun h => he (str_inj ((strpeq _ _).1 h))
    clear he
    go_wp2
    refine bodyPost_ret (v := .bool false) (by simp [results, Try.results10, go_sem]; exact hne) rfl ⟨by rw [decide_eq_false HE.out], HB.out⟩

/-- both answers -/
def tagU (key msg : List UInt8) : List UInt8 := if key.length = 32 then tagM key msg else []
def badU (key : List UInt8) : Int := if key.length = 32 then 0 else 2
def chkU (key msg tag : List UInt8) : Bool := if key.length = 32 then decide (tagM key msg = tag) else false
def clU (key : List UInt8) : List UInt8 := if key.length < 16 then [] else clampM key
def TagU (w : World) (key msg : List UInt8) (e : Ending) (w' : World) : Prop := ∃ oa n c, e = .returned (.tuple #[.slice oa n c, .int .i64 (badU key)]) ∧ Reads w' oa n (tagU key msg) ∧ Below w.heap.size w w'
theorem tagU_of {w w' : World} {key msg : List UInt8} {e : Ending} (hl : key.length = 32) (h : TagOut w (tagM key msg) e w') : TagU w key msg e w' := by
  obtain ⟨g, rfl, -, hB, hb⟩ := h
  refine ⟨some ⟨g, 0, none⟩, 16, 16, by rw [badU, if_pos hl], ⟨?_, ?_⟩, hb⟩
  · rw [tagU, if_pos hl]; simp [tagM, sumM]
  · rw [tagU, if_pos hl]; exact hB.cells
theorem tagU_bad {w w' : World} {key msg : List UInt8} {e : Ending} (hl : ¬ key.length = 32) (h : e = .returned (.tuple #[.slice none 0 0, .int .i64 2]) ∧ w' = w) : TagU w key msg e w' := by
  obtain ⟨rfl, rfl⟩ := h
  refine ⟨none, 0, 0, by rw [badU, if_neg hl], ⟨?_, ?_⟩, Below.refl _ _⟩
  · rw [tagU, if_neg hl]; rfl
  · rw [tagU, if_neg hl]; exact Cells.nil _ _
section
variable (key msg tag : List UInt8) (w : World) (ok om ot : Option Addr) (nk ck nm cm nt ct : Nat) (hk : Reads w ok nk key) (hm : Reads w om nm msg) (ht : Reads w ot nt tag) (hck : nk ≤ ck) (hckm : ck ≤ maxLen) (hcm : nm ≤ cm) (hcmm : cm ≤ maxLen) (hmx : msg.length ≤ 1000000) (htx : tag.length ≤ 1000000)
include hk hm hck hckm hcm hcmm hmx
theorem tag7u : Calls Try.prog 7 #[.slice ok nk ck, .slice om nm cm] w (TagU w key msg) := by
  by_cases hl : key.length = 32
  · exact (tag7 key msg w ok om nk ck nm cm hk hm hl hck hckm hcm hcmm hmx).mono fun _ _ h => tagU_of hl h
  · exact (tag7_bad key _ w ok nk ck hk hl).mono fun _ _ h => tagU_bad hl h
theorem tag8u : Calls Try.prog 8 #[.slice ok nk ck, .slice om nm cm] w (TagU w key msg) := by
  by_cases hl : key.length = 32
  · exact (tag8 key msg w ok om nk ck nm cm hk hm hl hck hckm hcm hcmm hmx).mono fun _ _ h => tagU_of hl h
  · exact (tag8_bad key _ w ok nk ck hk hl).mono fun _ _ h => tagU_bad hl h
include ht
include htx in
theorem check9u : Calls Try.prog 9 #[.slice ok nk ck, .slice om nm cm, .slice ot nt ct] w fun r w' => r = .returned (.bool (chkU key msg tag)) ∧ Below w.heap.size w w' := by
  by_cases hl : key.length = 32
  · rw [chkU, if_pos hl]; exact check9 key msg tag w ok om ot nk ck nm cm nt ct hk hm ht hl hck hckm hcm hcmm hmx htx
  · rw [chkU, if_neg hl]
    refine (check9_bad key tag _ w ok ot nk ck nt ct hk hl).mono ?_
    rintro r w' ⟨rfl, rfl⟩
    exact ⟨rfl, Below.refl _ _⟩
theorem check10u : Calls Try.prog 10 #[.slice ok nk ck, .slice om nm cm, .slice ot nt ct] w fun r w' => r = .returned (.bool (chkU key msg tag)) ∧ Below w.heap.size w w' := by
  by_cases hl : key.length = 32
  · rw [chkU, if_pos hl]; exact check10 key msg tag w ok om ot nk ck nm cm nt ct hk hm ht hl hck hckm hcm hcmm hmx
  · rw [chkU, if_neg hl]; exact check10_bad key tag _ w ok ot nk ck nt ct hk hl
end
def ClU (w : World) (key : List UInt8) (e : Ending) (w' : World) : Prop := ∃ oa n c, e = .returned (.slice oa n c) ∧ Reads w' oa n (clU key) ∧ Below w.heap.size w w'
theorem clU_nil {w w' : World} {key : List UInt8} {e : Ending} (hl : key.length < 16) (h : e = .returned (.slice none 0 0) ∧ w' = w) : ClU w key e w' := by
  obtain ⟨rfl, rfl⟩ := h
  refine ⟨none, 0, 0, rfl, ⟨?_, ?_⟩, Below.refl _ _⟩
  · rw [clU, if_pos hl]; rfl
  · rw [clU, if_pos hl]; exact Cells.nil _ _
theorem clU_of {w w' : World} {key : List UInt8} {e : Ending} (hl : ¬ key.length < 16) (h : RowOut w ((clampM key).map By) e w') : ClU w key e w' := by
  obtain ⟨oa, c, rfl, hc, hb⟩ := h
  refine ⟨oa, _, c, rfl, ⟨?_, ?_⟩, hb⟩
  · rw [clU, if_neg hl]; simp
  · rw [clU, if_neg hl]; exact hc
section
variable (key : List UInt8) (w : World) (ok : Option Addr) (nk ck : Nat) (hk : Reads w ok nk key) (hck : nk ≤ ck) (hckm : ck ≤ maxLen)
include hk hck hckm
theorem clamp11u : Calls Try.prog 11 #[.slice ok nk ck] w (ClU w key) := by
  by_cases hl : key.length < 16
  · exact (clamp11_nil key w ok nk ck hk hl).mono fun _ _ h => clU_nil hl h
  · exact (clamp11 key w ok nk ck hk hl hck hckm).mono fun _ _ h => clU_of hl h
theorem clamp12u : Calls Try.prog 12 #[.slice ok nk ck] w (ClU w key) := by
  by_cases hl : key.length < 16
  · exact (refClamp_nil key w ok nk ck hk hl).mono fun _ _ h => clU_nil hl h
  · exact (refClamp12 key w ok nk ck hk hl hck hckm).mono fun _ _ h => clU_of hl h
end
end Go.Proofs.Ytlheepcojeaeaaa
