/- Lines that each give one field, for HeadClose and HeadNames. -/
import Derived.Test.YtaafeojjcfognaaXHeadFacts
set_option linter.unusedVariables false
set_option linter.unusedSimpArgs false
namespace Go.Proofs.Ytaafeojjcfognaa.M
open Go.RowKit Go.Proofs.YtaafeojjcfognaaW.PrintWords Go.Proofs.Ytaafeojjcfognaa.X
theorem exBAs (l : List ByteArray) : ∃ ls : List (List UInt8), l = ls.map toBA := by
  induction l with
  | nil => exact ⟨[], rfl⟩
  | cons x r ih =>
    obtain ⟨ls, rfl⟩ := ih
    obtain ⟨a, rfl⟩ := exBA x
    exact ⟨a :: ls, rfl⟩
def lGet : List UInt8 := [71, 69, 84, 32, 47, 32, 72, 84, 84, 80, 47, 49, 46, 49]
theorem get_parse (rest : List (List UInt8)) (fs : List FldM) (hr : rest.length ≤ 16) (hfs : fieldsL rest = some fs) : parseL (lGet :: rest) = frameL [71, 69, 84] [47] fs := by
  have e : lGet = [71, 69, 84] ++ 32 :: ([47] ++ 32 :: sVer) := rfl
  rw [e, parse_plain _ _ _ fs (by decide) (by decide) (by decide) hr (by decide +kernel) hfs]
theorem rdOf_mid (pre : List (List UInt8)) (w : List UInt8) (r : List (List UInt8)) : rdOf ByteArray.empty ((pre ++ w :: r).map toBA) (pre.length : Int) = toBA w := by simp [rdOf]
end Go.Proofs.Ytaafeojjcfognaa.M
