-- Made smaller by wip/squeeze.py out of this claim's texts. Not trusted: Lean checks it.
import Derived.Test.YtldaingkcnmaoaaDoorXSeedM
set_option linter.unusedVariables false
set_option linter.unusedSimpArgs false
namespace Go.Proofs.YtldaingkcnmaoaaDoor.M
open Go.RowKit Go.Proofs.YtldaingkcnmaoaaDoor.X Go.Proofs.YtldaingkcnmaoaaDoorW.PrintWords
theorem ev_get {α : Type} {f : Nat → Option α} {a : α} (h : Ev f a) : ∃ K, f K = some a := by
  obtain ⟨K, h⟩ := h
  exact ⟨K, h K (Nat.le_refl _)⟩
theorem seed_len (mi ti bi tk ch : Nat) (cl : Bool) (wr : Nat) (hm : mi < 6) (ht : ti < 16) (hk : tk < 4) (hc : ch < 4) (hb : bi < 8) (hw : wr < 4) : (seedL mi ti bi tk ch cl wr).length ≤ 5000 := by
  obtain ⟨_, hsz⟩ := seed_fit mi ti tk ch bi wr cl hm ht hk hc hb hw
  have hlen := bodies_len ⟨bi, hb⟩
  simp only at hlen
  have ht2 : ∀ ws : List (List UInt8), ((textOf ws).length : Int) = sizeOf' ws := by
    intro ws
    induction ws with
    | nil => rfl
    | cons w r ih => simp only [textOf, sizeOf', List.length_append, List.length_cons]; omega
  have h1 := ht2 (lFirst mi ti :: lRest tk cl wr ch bi)
  have h2 : (lBody wr ch bi).length ≤ 3000 := by
    unfold lBody
    split
    · simp
    · split
      · rename_i h
        have := chunks_len ch h (by omega) (bL bi).length (bL bi)
        omega
      · omega
  simp only [seedL, List.length_append, List.length_cons]
  omega
end Go.Proofs.YtldaingkcnmaoaaDoor.M
