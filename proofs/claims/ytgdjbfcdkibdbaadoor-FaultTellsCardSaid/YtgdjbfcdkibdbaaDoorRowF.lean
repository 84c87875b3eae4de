/- What the conditions of the fault statements' rows give their walks. Conditions: none. -/
import Derived.Test.YtgdjbfcdkibdbaaDoorRow
import Derived.Test.YtgdjbfcdkibdbaaDoorTextT
import Derived.Stop.LaidErr
import Derived.Lib.LaidTab
namespace Go.Proofs.YtgdjbfcdkibdbaaDoor
open Go Go.RowKit Go.ChangeShapes Go.WideShapes Go.ChangeAt
set_option maxRecDepth 100000
set_option maxHeartbeats 2000000
/-- What those rows lay. -/
abbrev faultLaid : List (String × DataW Unit) := [("math/bits.deBruijn32tab", Rows.laid_math_bits_deBruijn32tab), ("math/bits.deBruijn64tab", Rows.laid_math_bits_deBruijn64tab), ("internal/strconv.uint64pow10", Rows.laid_internal_strconv_uint64pow10), ("errors.errorType", Rows.laid_errors_errorType), ("treadle/treadlelaw12.plain", Rows.laid_treadle_treadlelaw12_plain)]
abbrev faultData : List (String × DataW Unit) := [("math/bits.deBruijn32tab", Rows.laid_math_bits_deBruijn32tab), ("math/bits.deBruijn64tab", Rows.laid_math_bits_deBruijn64tab), ("internal/strconv.uint64pow10", Rows.laid_internal_strconv_uint64pow10), ("treadle/treadlelaw12.plain", Rows.laid_treadle_treadlelaw12_plain)]
theorem pow_tab : (Rows.laid_internal_strconv_uint64pow10 : DataW Unit) = Lib.tabData .u64 Lib.pow10Tab := by kernel_rfl
theorem plain_global : Tryd.prog.globalNamed "treadle/treadlelaw12.plain" = some 0 := by kernel_rfl
theorem star_es : "*" ++ "errors.errorString" = "*errors.errorString" := by decide
theorem plain_row (u : TypeId) (h : Tryd.prog.typeName? 3 u = some "*errors.errorString") : u = 240 :=
  typeName_ptr_named (nm := "errors.errorString") (by rw [star_es]; kernel_rfl) (by kernel_rfl) (by decide) u (by rw [star_es]; exact h)
theorem fault_laid {W : World} (h : laidMetH Tryd.prog faultLaid W) : ErrType W ∧ Pow W ∧ ∃ a, PlainG W a ∧ PlainAt W (some (.plain a)) := by
  have h' : laidMet Tryd.prog faultData W ∧ handlesMet Tryd.prog [("errors.errorType", Rows.laid_errors_errorType)] W := h
  obtain ⟨hd, hh⟩ := h'
  refine ⟨errType_of_handles hh (List.mem_singleton.2 rfl), ?_, ?_⟩
  · have h2 := hd.tail.tail
    rw [pow_tab] at h2
    exact Lib.tabIs_of_head (t := 229) (e := 215) (n := 20) powg (by kernel_rfl) Tryd.underlying229 Tryd.underlying215 (by kernel_rfl) (by kernel_rfl) h2
  · obtain ⟨a, s, h1, h2, h3, _⟩ := laid_sentinel (tp := 240) (te := 269) (ts := 9) hd.tail.tail.tail plain_global (by kernel_rfl) Tryd.underlying27 plain_row Tryd.underlying240 Tryd.underlying269 rfl rfl Tryd.underlying9 (by kernel_rfl) (by kernel_rfl)
    refine ⟨a, ?_, ?_⟩
    · have := World.var?_cell plain_global h1 0
      unfold PlainG
      simpa using this
    · show W.cell? a = some (tx _)
      rw [h2]
      congr 2
      obtain ⟨⟨l⟩⟩ := s
      simp only at h3
      rw [h3]
end Go.Proofs.YtgdjbfcdkibdbaaDoor
