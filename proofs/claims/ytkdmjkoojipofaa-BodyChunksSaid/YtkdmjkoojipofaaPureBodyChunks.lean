/- BodyChunks: what is put into chunks of whatever sizes comes out whole, and nothing behind it is taken. No condition. -/
import Derived.Test.YtkdmjkoojipofaaXChunksM
import Derived.Test.YtkdmjkoojipofaaXBits
import Derived.Test.YtkdmjkoojipofaaX17
set_option linter.unusedVariables false
set_option linter.unusedSimpArgs false
namespace Go.Proofs.Ytkdmjkoojipofaa.Pure
open Go.RowKit Go.Proofs.Ytkdmjkoojipofaa.X Go.Proofs.YtkdmjkoojipofaaW.PrintWords Go.Proofs.YtkdmjkoojipofaaW.PrintMore Go.Proofs.YtkdmjkoojipofaaW.PrintLast Go.Proofs.Ytkdmjkoojipofaa.M

theorem chunks_out (s : ByteArray) (n : Int) (m : ByteArray) : Ev (fun k => crossroadlaw03_BodyChunks.j0 k s n m true) true := by
  refine Ev.step' ?_
  simp only [crossroadlaw03_BodyChunks.j0, if_true]
  exact Ev.now true
theorem chunks_j0 (s more : List UInt8) (n : Int) (hs : s.length ≤ 1500) (hm : more.length ≤ 500) : Ev (fun k => crossroadlaw03_BodyChunks.j0 k (toBA s) n (toBA more) false) true := by
  obtain ⟨m, hm1, hm0, hm5⟩ : ∃ m : Nat, wrap64 (n % 64 + 1) = (m : Int) ∧ 0 < m ∧ m < 65 := ⟨(n % 64 + 1).toNat, by rw [w64 (by omega) (by omega)]; omega, by omega, by omega⟩
  have hx1 : mx (m : Int) 1 = (m : Int) := by unfold mx; split <;> omega
  have hx2 : mx (wrap64 (-(m : Int))) 1 = ((1 : Nat) : Int) := by rw [w64 (by omega) (by omega)]; unfold mx; split <;> omega
  have hx3 : mx 1 1 = ((1 : Nat) : Int) := rfl
  have hl := chunks_len m hm0 hm5 s.length s
  refine Ev.step' ?_
  simp only [crossroadlaw03_BodyChunks.j0, Bool.false_eq_true, if_false, i64_and63, hm1]
  refine Ev.bind (chunks_f (m : Int) m hx1 hm0 hm5 s (by omega)) ?_
  simp only [toBA_size, toBA_append, if_pos (show (chunksF s.length m s).length + more.length ≤ 9223372036854775807 by omega)]
  refine Ev.bind (lawFeed_f (-1) (chunksF s.length m s ++ more) (by simp; omega)) ?_
  rw [newB_chunks]
  by_cases h6 : s.length > 600
  · simp only [if_pos (show (s.length : Int) > 600 by omega), body_Body_Status.f, Option.bind_some, chunks_over m hm0 hm5 more s.length s [] (Nat.le_refl _) (by simp) (by simp; omega)]
    exact Ev.now true
  · have hr := chunks_run m hm0 hm5 more s.length s [] (Nat.le_refl _) (by simp; omega)
    have hd : strOfNums (nts ([] ++ s)) = toBA s := strOfNums_nats _
    rw [hr]
    simp only [if_neg (show ¬ (s.length : Int) > 600 by omega), body_Body_Status.f, body_Body_Done.f, body_Body_Data.f, Option.bind_some, lnB, if_true, hd]
    refine Ev.bind (chunks_f _ 1 hx2 (by omega) (by omega) s (by omega)) ?_
    refine Ev.bind (chunks_f 1 1 hx3 (by omega) (by omega) s (by omega)) ?_
    exact Ev.const (by simp)
theorem BodyChunks : crossroadlaw03_BodyChunks.Pure := by
  intro a0 n a2 s0 _ s2
  obtain ⟨s, rfl⟩ := exBA a0
  obtain ⟨m, rfl⟩ := exBA a2
  refine Ev.rounds (g := fun k => crossroadlaw03_BodyChunks.f k (toBA s) n (toBA m)) ?_
  simp only [crossroadlaw03_BodyChunks.f, toBA_size]
  refine Ev.bind fit_f ?_
  simp only [if_true]
  by_cases h3 : s.length > 1500
  · simp only [if_pos (show (s.length : Int) > 1500 by omega)]; exact chunks_out _ _ _
  · simp only [if_neg (show ¬ (s.length : Int) > 1500 by omega)]
    by_cases h4 : m.length > 500
    · simp only [decide_eq_true (show (m.length : Int) > 500 by omega)]; exact chunks_out _ _ _
    · simp only [decide_eq_false (show ¬ (m.length : Int) > 500 by omega)]; exact chunks_j0 s m n (by omega) (by omega)
end Go.Proofs.Ytkdmjkoojipofaa.Pure
