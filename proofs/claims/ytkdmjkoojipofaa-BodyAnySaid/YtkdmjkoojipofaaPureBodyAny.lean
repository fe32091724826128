/- BodyAny: any bytes in chunks are a body, or wrong by a status, or not at their end. No condition. -/
import Derived.Test.YtkdmjkoojipofaaXBodyM
import Derived.Test.YtkdmjkoojipofaaX11
set_option linter.unusedVariables false
set_option linter.unusedSimpArgs false
namespace Go.Proofs.Ytkdmjkoojipofaa.Pure
open Go.RowKit Go.Proofs.Ytkdmjkoojipofaa.X Go.Proofs.YtkdmjkoojipofaaW.PrintWords Go.Proofs.YtkdmjkoojipofaaW.PrintLast Go.Proofs.Ytkdmjkoojipofaa.M

def StatB (b : BodyS) : Prop := b.status = 0 ∨ b.done = true ∧ (b.status = 400 ∨ b.status = 413 ∨ b.status = 431)
theorem stat_fail (b : BodyS) (x : Int) (h : x = 400 ∨ x = 413 ∨ x = 431) : StatB (X.failB b x) := .inr ⟨rfl, h⟩
theorem stat_take (b : BodyS) (c : UInt8) (h : b.status = 0) : StatB (X.takeB b c) := by
  unfold X.takeB
  split
  · exact .inr ⟨rfl, .inr (.inl rfl)⟩
  · exact .inl h
theorem stat_whole (b : BodyS) (l : List UInt8) (h : b.status = 0) : StatB (wholeL b l) := by
  unfold wholeL
  split
  · unfold X.sizeB
    split
    · exact stat_fail _ _ (.inl rfl)
    · split
      · exact .inl h
      · split
        · exact stat_fail _ _ (.inr (.inl rfl))
        · exact .inl h
  · split
    · split
      · exact .inl h
      · exact .inr ⟨rfl, .inl rfl⟩
    · exact .inl h
theorem stat_step (b : BodyS) (c : UInt8) (h : StatB b) : StatB (stepB b c) := by
  unfold stepB
  split
  · exact h
  · rename_i hd
    have h0 : b.status = 0 := by
      rcases h with h | h
      · exact h
      · exact absurd h.1 hd
    have ht := stat_take b c h0
    split
    · rcases ht with ht | ht
      · exact .inl ht
      · refine .inr ⟨?_, ht.2⟩
        show ((X.takeB b c).done || _) = true
        rw [ht.1, Bool.true_or]
    · split
      · split
        · rcases ht with ht | ht
          · exact .inl ht
          · exact .inr ht
        · exact ht
      · unfold lineL
        split
        · exact stat_fail _ _ (.inr (.inr rfl))
        · split
          · split
            · exact stat_fail _ _ (.inl rfl)
            · exact .inl h0
          · split
            · exact stat_whole _ _ h0
            · exact stat_fail _ _ (.inl rfl)
theorem stat_run (s : List UInt8) : ∀ b, StatB b → StatB (runB b s).1 := by
  induction s with
  | nil => intro b h; exact h
  | cons c r ih =>
    intro b h
    rw [runB]
    split
    · exact h
    · exact ih _ (stat_step b c h)
theorem any_l0 (m : List UInt8) (hm : m.length ≤ 100000) (b : BodyS) (hf : FitB b) (hd : b.done = true) (d : ByteArray) (hdd : strOfNums (nts b.data) = d) (x : Int) (hx : b.status = x) (post : List UInt8) : ∀ pre : List UInt8, m = pre ++ post →
    Ev (fun k => crossroadlaw03_BodyAny.l0 k (toBA m) b d x (m.length : Int) (pre.length : Int)) true := by
  induction post with
  | nil =>
    intro pre h
    have hp : pre.length = m.length := by subst h; simp
    refine Ev.step' ?_
    simp only [crossroadlaw03_BodyAny.l0, if_neg (show ¬ (pre.length : Int) < (m.length : Int) by omega), body_Body_Data.f, body_Body_Status.f, body_Body_Done.f, Option.bind_some, hdd, hx, hd, if_true]
    exact Ev.now true
  | cons c r ih =>
    intro pre h
    have hp : pre.length < m.length := by subst h; simp
    have hbt : bt (toBA m) (pre.length : Int) = (c.toNat : Int) := by subst h; exact bt_mid _ _ _
    have hw : wrap64 ((pre.length : Int) + 1) = ((pre ++ [c]).length : Int) := by rw [w64 (by omega) (by omega)]; simp
    have es : stepB b c = b := by rw [stepB, if_pos hd]
    refine Ev.step' ?_
    simp only [crossroadlaw03_BodyAny.l0, if_pos (show (pre.length : Int) < (m.length : Int) by omega), if_pos (show (0 : Int) ≤ (pre.length : Int) by omega), toBA_size, hbt, hw]
    refine Ev.bind (feed_f b c hf) ?_
    rw [es]
    exact ih (pre ++ [c]) (by simp [h])
theorem any_j1 (m : List UInt8) (hm : m.length ≤ 100000) (b : BodyS) (hf : FitB b) : Ev (fun k => crossroadlaw03_BodyAny.j1 k (toBA m) b (strOfNums (nts b.data)) b.status b.done false) true := by
  refine Ev.step' ?_
  simp only [crossroadlaw03_BodyAny.j1, Bool.false_eq_true, if_false, toBA_size]
  by_cases hd : b.done = true
  · simp only [if_pos hd]
    exact any_l0 m hm b hf hd _ rfl _ rfl m [] rfl
  · simp only [if_neg hd]; exact Ev.now true
theorem any_j0 (s m : List UInt8) (hs : s.length ≤ 3000) (hm : m.length ≤ 100000) : Ev (fun k => crossroadlaw03_BodyAny.j0 k (toBA s) (toBA m) false) true := by
  refine Ev.step' ?_
  simp only [crossroadlaw03_BodyAny.j0, Bool.false_eq_true, if_false]
  refine Ev.bind (lawFeed_f (-1) s (by omega)) ?_
  have hf := run_fit s (newB (-1)) (newB_fit _)
  have hst := stat_run s (newB (-1)) (.inl rfl)
  generalize (runB (newB (-1)) s).1 = b at hf hst
  simp only [body_Body_Data.f, body_Body_Status.f, body_Body_Done.f, Option.bind_some]
  have hsz : (strOfNums (nts b.data)).size = b.data.length := by
    rw [show strOfNums (nts b.data) = toBA b.data from strOfNums_nats b.data, toBA_size]
  have h6 : decide (((strOfNums (nts b.data)).size : Int) > 600) = false := decide_eq_false (by rw [hsz]; have := hf.1; omega)
  rw [h6]
  have key := any_j1 m hm b hf
  rcases hst with h0 | ⟨hd, h0 | h0 | h0⟩
  · simp only [if_pos h0]; exact key
  · simp only [if_neg (show ¬ b.status = 0 by omega), if_pos h0, if_pos hd]; exact key
  · simp only [if_neg (show ¬ b.status = 0 by omega), if_neg (show ¬ b.status = 400 by omega), if_pos h0, if_pos hd]; exact key
  · simp only [if_neg (show ¬ b.status = 0 by omega), if_neg (show ¬ b.status = 400 by omega), if_neg (show ¬ b.status = 413 by omega), if_pos h0, if_pos hd]; exact key
theorem any_out (s m : ByteArray) : Ev (fun k => crossroadlaw03_BodyAny.j0 k s m true) true := by
  refine Ev.step' ?_
  simp only [crossroadlaw03_BodyAny.j0, if_true]
  exact Ev.now true
theorem BodyAny : crossroadlaw03_BodyAny.Pure := by
  intro a0 a1 s0 s1
  obtain ⟨s, rfl⟩ := exBA a0
  obtain ⟨m, rfl⟩ := exBA a1
  refine Ev.rounds (g := fun k => crossroadlaw03_BodyAny.f k (toBA s) (toBA m)) ?_
  simp only [crossroadlaw03_BodyAny.f, toBA_size]
  refine Ev.bind fit_f ?_
  simp only [if_true]
  by_cases h3 : s.length > 3000
  · simp only [if_pos (show (s.length : Int) > 3000 by omega)]; exact any_out _ _
  · simp only [if_neg (show ¬ (s.length : Int) > 3000 by omega)]
    by_cases h4 : m.length > 300
    · simp only [decide_eq_true (show (m.length : Int) > 300 by omega)]; exact any_out _ _
    · simp only [decide_eq_false (show ¬ (m.length : Int) > 300 by omega)]; exact any_j0 s m (by omega) (by omega)
end Go.Proofs.Ytkdmjkoojipofaa.Pure
