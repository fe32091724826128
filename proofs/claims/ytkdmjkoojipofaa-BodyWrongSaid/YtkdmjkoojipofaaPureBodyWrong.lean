/- BodyWrong: what is wrong with a chunk is told by its status. No condition. -/
import Derived.Test.YtkdmjkoojipofaaXBodyM
import Derived.Test.YtkdmjkoojipofaaX12
set_option linter.unusedVariables false
set_option linter.unusedSimpArgs false
namespace Go.Proofs.Ytkdmjkoojipofaa.Pure
open Go.RowKit Go.Proofs.Ytkdmjkoojipofaa.X Go.Proofs.YtkdmjkoojipofaaW.PrintWords Go.Proofs.YtkdmjkoojipofaaW.PrintLast Go.Proofs.Ytkdmjkoojipofaa.M

def wrongT : List (List UInt8) := [[10], [49, 10], [49, 13, 13, 10], [103, 13, 10], [13, 10], [49, 13, 10, 97, 98, 13, 10], [50, 53, 57, 13, 10], [48, 59] ++ List.replicate 201 49, [45, 49, 13, 10], [49, 13, 10, 97, 10]]
def wrongW : List Int := [400, 400, 400, 400, 400, 400, 413, 431, 400, 400]
def goodT : List UInt8 := [50, 53, 56, 59, 120, 61, 121, 13, 10]
theorem wrong_all : ∀ i : Fin 10, (runB (newB (-1)) (wrongT.getD i.val [])).1.done = true ∧ (runB (newB (-1)) (wrongT.getD i.val [])).1.status = wrongW.getD i.val 0 := by decide +kernel
theorem wrong_len : ∀ i : Fin 10, (wrongT.getD i.val []).length ≤ 1000 := by decide +kernel
theorem good_all : (runB (newB (-1)) goodT).1.done = false ∧ (runB (newB (-1)) goodT).1.status = 0 := by decide +kernel
theorem wrong_l0 (a0 : Int) : ∀ j : Nat, j ≤ 201 → Ev (fun k => crossroadlaw03_BodyWrong.l0 k a0 (toBA (List.replicate (201 - j) 49)) ((201 - j : Nat) : Int)) true := by
  intro j
  induction j with
  | zero =>
    intro _
    obtain ⟨i, hi⟩ : ∃ i : Fin 10, Int.tmod (wrap64 ((Int.tmod a0 10) + 10)) 10 = (i.val : Int) := by
      have h1 := Int.tmod_lt_of_pos a0 (show (0 : Int) < 10 by omega)
      have h2 := Int.lt_tmod_of_pos a0 (show (0 : Int) < 10 by omega)
      rw [w64 (by omega) (by omega), Int.tmod_eq_emod_of_nonneg (by omega)]
      exact ⟨⟨((Int.tmod a0 10 + 10) % 10).toNat, by omega⟩, by show _ = ((((Int.tmod a0 10 + 10) % 10).toNat : Nat) : Int); omega⟩
    have hi10 := i.isLt
    have ey : ([(⟨#[10]⟩ : ByteArray), (⟨#[49, 10]⟩ : ByteArray), (⟨#[49, 13, 13, 10]⟩ : ByteArray), (⟨#[103, 13, 10]⟩ : ByteArray), (⟨#[13, 10]⟩ : ByteArray), (⟨#[49, 13, 10, 97, 98, 13, 10]⟩ : ByteArray), (⟨#[50, 53, 57, 13, 10]⟩ : ByteArray), (⟨#[48, 59]⟩ : ByteArray) ++ toBA (List.replicate 201 49), (⟨#[45, 49, 13, 10]⟩ : ByteArray), (⟨#[49, 13, 10, 97, 10]⟩ : ByteArray)] : List ByteArray) = wrongT.map toBA := by
      rw [show (⟨#[48, 59]⟩ : ByteArray) ++ toBA (List.replicate 201 49) = toBA ([48, 59] ++ List.replicate 201 49) from toBA_append [48, 59] (List.replicate 201 49)]
      rfl
    have eg : (⟨#[50, 53, 56, 59, 120, 61, 121, 13, 10]⟩ : ByteArray) = toBA goodT := rfl
    have er : rdOf ByteArray.empty (wrongT.map toBA) (i.val : Int) = toBA (wrongT.getD i.val []) := by
      unfold rdOf
      rw [Int.toNat_natCast, List.getD_eq_getElem?_getD, List.getD_eq_getElem?_getD, List.getElem?_map]
      have : i.val < wrongT.length := hi10
      rw [List.getElem?_eq_getElem this]
      rfl
    obtain ⟨d1, d2⟩ := wrong_all i
    obtain ⟨g1, g2⟩ := good_all
    have hl := wrong_len i
    have ew : rd ([400, 400, 400, 400, 400, 400, 413, 431, 400, 400] : List Int) (i.val : Int) = wrongW.getD i.val 0 := by unfold rd; rw [Int.toNat_natCast]; rfl
    refine Ev.step' ?_
    simp only [crossroadlaw03_BodyWrong.l0, Nat.sub_zero, if_neg (show ¬ ((201 : Nat) : Int) < 201 by omega), toBA_size, List.length_replicate, if_pos (show 2 + 201 ≤ 9223372036854775807 by omega), Option.bind_some, hi, ey, if_pos (show (0 : Int) ≤ (i.val : Int) by omega), List.length_map, if_pos (show (i.val : Int) < (wrongT.length : Int) by show (i.val : Int) < 10; omega), if_pos (show (i.val : Int) < (([400, 400, 400, 400, 400, 400, 413, 431, 400, 400] : List Int).length : Int) by show (i.val : Int) < 10; omega), er, eg]
    refine Ev.bind (lawFeed_f (-1) (wrongT.getD i.val []) (by omega)) ?_
    refine Ev.bind (lawFeed_f (-1) goodT (by decide)) ?_
    simp only [body_Body_Done.f, body_Body_Status.f, Option.bind_some, d1, g1, if_true, d2, ew, Bool.false_eq_true, if_false, g2]
    exact Ev.const (by simp)
  | succ j ih =>
    intro hj
    have h1 := ih (by omega)
    have hw : wrap64 (((201 - (j + 1) : Nat) : Int) + 1) = ((201 - j : Nat) : Int) := by rw [w64 (by omega) (by omega)]; omega
    have ea : toBA (List.replicate (201 - (j + 1)) 49) ++ (⟨#[49]⟩ : ByteArray) = toBA (List.replicate (201 - j) 49) := by
      rw [show (⟨#[49]⟩ : ByteArray) = toBA [49] from rfl, toBA_append, show 201 - j = (201 - (j + 1)) + 1 by omega, List.replicate_succ']
    refine Ev.step' ?_
    simp only [crossroadlaw03_BodyWrong.l0, if_pos (show ((201 - (j + 1) : Nat) : Int) < 201 by omega), toBA_size, List.length_replicate, if_pos (show 201 - (j + 1) + 1 ≤ 9223372036854775807 by omega), ea, hw]
    exact h1
theorem BodyWrong : crossroadlaw03_BodyWrong.Pure := by
  intro a0 a1 _ _
  refine Ev.rounds (g := fun k => crossroadlaw03_BodyWrong.f k a0 a1) ?_
  simp only [crossroadlaw03_BodyWrong.f]
  refine Ev.bind fit_f ?_
  simp only [if_true]
  exact wrong_l0 a0 201 (Nat.le_refl _)
end Go.Proofs.Ytkdmjkoojipofaa.Pure
