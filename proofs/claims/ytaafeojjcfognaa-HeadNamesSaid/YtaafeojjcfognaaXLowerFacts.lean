/- ascii.Lower and ascii.Value as they are told, in plain lists. -/
import Derived.Test.YtaafeojjcfognaaXAscii
import Derived.Test.YtaafeojjcfognaaX9
set_option linter.unusedVariables false
set_option linter.unusedSimpArgs false
namespace Go.Proofs.Ytaafeojjcfognaa.M
open Go.RowKit Go.Proofs.YtaafeojjcfognaaW.PrintWords Go.Proofs.Ytaafeojjcfognaa.X
def lowerL (l : List UInt8) : List UInt8 := l.map lowerB
theorem lower_f (l : List UInt8) (hl : l.length ≤ 140737488355328) : ascii_Lower.f (toBA l) = some (toBA (lowerL l)) := by
  rw [ascii_Lower.f, toBA_size, if_pos hl, lowerS, toBA_dl]; rfl
theorem lowerL_length (l : List UInt8) : (lowerL l).length = l.length := by simp [lowerL]
theorem forall_u8 {p : UInt8 → Prop} (h : ∀ n : Fin 256, p (UInt8.ofNat n.val)) (c : UInt8) : p c := by
  have := h ⟨c.toNat, c.toNat_lt⟩
  simpa using this
theorem lowerB_idem (c : UInt8) : lowerB (lowerB c) = lowerB c := by
  revert c
  exact forall_u8 (by decide +kernel)
theorem lowerL_idem (l : List UInt8) : lowerL (lowerL l) = lowerL l := by
  simp only [lowerL, List.map_map]
  exact List.map_congr_left fun c _ => lowerB_idem c
theorem mark_lower (c : UInt8) : markB (lowerB c) = markB c := by
  revert c
  exact forall_u8 (by decide +kernel)
theorem token_lower (l : List UInt8) : tokenL (lowerL l) = tokenL l := by
  simp only [tokenL, lowerL, List.all_map, List.isEmpty_map]
  congr 2
  funext c
  exact mark_lower c
theorem dig_lower16 (c : UInt8) : digB 16 (lowerB c) = digB 16 c := by
  revert c
  exact forall_u8 (by decide +kernel)
theorem numGo_lower (l : List UInt8) : ∀ x, numGo 16 x (lowerL l) = numGo 16 x l := by
  induction l with
  | nil => intro x; rfl
  | cons c r ih =>
    intro x
    have := ih (x * 16 + digB 16 c)
    simp only [lowerL, List.map_cons, numGo, dig_lower16] at this ⊢
    rw [this]
end Go.Proofs.Ytaafeojjcfognaa.M
