/- AsciiWords: for every text and byte, the words put together again with that byte are the text, and none has it. No condition. -/
import Derived.Test.YtlkknhojfhbopaaXFit01
import Derived.Test.YtlkknhojfhbopaaXWordsFacts
import Derived.Test.YtlkknhojfhbopaaX6
set_option linter.unusedVariables false
set_option linter.unusedSimpArgs false
namespace Go.Proofs.Ytlkknhojfhbopaa.Pure
open Go.RowKit Go.Proofs.Ytlkknhojfhbopaa.X Go.Proofs.YtlkknhojfhbopaaW.PrintWords Go.Proofs.YtlkknhojfhbopaaW.PrintLast Go.Proofs.Ytlkknhojfhbopaa.M

theorem aw_l1 (x0 : ByteArray) (b : Int) (x5 x18 : List ByteArray) (t w : List UInt8) (x19 x20 : Int) (hlen : t.length + w.length ≤ 1000) (hno : ∀ c ∈ w, (c.toNat : Int) ≠ b)
    (hv : Ev (fun k => crossroadlaw01_AsciiWords.l0 k x0 b x5 (toBA (t ++ w)) x18 x19 (wrap64 (x20 + 1))) true) (rest : List UInt8) : ∀ pre : List UInt8, w = pre ++ rest →
    Ev (fun k => crossroadlaw01_AsciiWords.l1 k x0 b x5 (toBA t) (toBA w) x18 x19 x20 (w.length : Int) (pre.length : Int)) true := by
  induction rest with
  | nil =>
    intro pre h
    have hp : pre.length = w.length := by subst h; simp
    refine Ev.step' ?_
    simp only [crossroadlaw01_AsciiWords.l1, if_neg (show ¬ (pre.length : Int) < (w.length : Int) by omega), toBA_size, if_pos (show t.length + w.length ≤ 9223372036854775807 by omega), toBA_append]
    exact hv
  | cons c r ih =>
    intro pre h
    have hp : pre.length < w.length := by subst h; simp
    have hb : bt (toBA w) (pre.length : Int) = (c.toNat : Int) := by rw [h]; exact bt_mid _ _ _
    have hw : wrap64 ((pre.length : Int) + 1) = ((pre ++ [c]).length : Int) := by rw [w64 (by omega) (by omega)]; simp
    refine Ev.step' ?_
    simp only [crossroadlaw01_AsciiWords.l1, if_pos (show (pre.length : Int) < (w.length : Int) by omega), toBA_size, if_pos (show (0 : Int) ≤ (pre.length : Int) by omega), hb, hw, if_neg (hno c (by rw [h]; simp))]
    exact ih (pre ++ [c]) (by simp [h])
theorem aw_l0 (b : UInt8) (l : List UInt8) (hl : l.length ≤ 1000) (ws : List (List UInt8)) (hws : ws ≠ []) (hwl : ws.length ≤ 1001) (hno : ∀ w ∈ ws, ∀ c ∈ w, (c.toNat : Int) ≠ (b.toNat : Int)) (post : List (List UInt8)) : ∀ (pre : List (List UInt8)) (t : List UInt8), ws = pre ++ post →
    l = t ++ (if pre = [] ∨ post = [] then [] else [b]) ++ joinL [b] post →
    Ev (fun k => crossroadlaw01_AsciiWords.l0 k (toBA l) (b.toNat : Int) (ws.map toBA) (toBA t) (ws.map toBA) ((ws.map toBA).length : Int) (pre.length : Int)) true := by
  have hlen : (ws.map toBA).length = ws.length := by simp
  induction post with
  | nil =>
    intro pre t h ht
    have hp : pre.length = ws.length := by subst h; simp
    have hpos : 0 < ws.length := List.length_pos_iff.2 hws
    refine Ev.step' ?_
    simp only [crossroadlaw01_AsciiWords.l0, hlen, if_neg (show ¬ (pre.length : Int) < (ws.length : Int) by omega), toBA_toList]
    have : t = l := by simpa [joinL] using ht.symm
    simp only [this, if_true, decide_eq_true (show (ws.length : Int) ≥ 1 by omega)]
    exact Ev.now _
  | cons w r ih =>
    intro pre t h ht
    have hp : pre.length < ws.length := by subst h; simp
    have hr : rdOf ByteArray.empty (ws.map toBA) (pre.length : Int) = toBA w := by rw [h]; simp [rdOf]
    have hw : wrap64 ((pre.length : Int) + 1) = ((pre ++ [w]).length : Int) := by rw [w64 (by omega) (by omega)]; simp
    have hj : joinL [b] (w :: r) = w ++ (if r = [] then [] else [b]) ++ joinL [b] r := by
      cases r with
      | nil => simp [joinL]
      | cons x r => simp [joinL]
    have key : ∀ t' : List UInt8, t' = t ++ (if pre = [] then [] else [b]) → Ev (fun k => crossroadlaw01_AsciiWords.j1 k (toBA l) (b.toNat : Int) (ws.map toBA) (toBA t') (toBA w) (ws.map toBA) ((ws.map toBA).length : Int) (pre.length : Int)) true := by
      intro t' ht'
      have hl2 : l = t' ++ w ++ (if r = [] then [] else [b]) ++ joinL [b] r := by
        rw [ht, hj, ht']; simp
      refine Ev.step' ?_
      simp only [crossroadlaw01_AsciiWords.j1, toBA_size]
      refine aw_l1 _ _ _ _ t' w _ _ ?_ (hno w (by rw [h]; simp)) ?_ w [] rfl
      · have := congrArg List.length hl2; simp at this; omega
      · rw [hw]
        refine ih (pre ++ [w]) (t' ++ w) (by simp [h]) ?_
        rw [hl2]
        cases r <;> simp
    refine Ev.step' ?_
    simp only [crossroadlaw01_AsciiWords.l0, hlen, if_pos (show (pre.length : Int) < (ws.length : Int) by omega), if_pos (show (0 : Int) ≤ (pre.length : Int) by omega), hr, strOfNums_one, toBA_append, toBA_size, Option.bind_some]
    rw [hlen] at key
    by_cases hpre : pre = []
    · subst hpre
      simp only [List.length_nil]
      exact key t (by simp)
    · have : 0 < pre.length := List.length_pos_iff.2 hpre
      have hsz : t.length + [b].length ≤ 9223372036854775807 := by have := congrArg List.length ht; simp at this ⊢; omega
      simp only [if_pos (show (pre.length : Int) > 0 by omega), if_pos hsz]
      exact key (t ++ [b]) (by simp [hpre])
theorem AsciiWords : crossroadlaw01_AsciiWords.Pure := by
  intro s by_ hs hb
  obtain ⟨l, rfl⟩ := exBA s
  obtain ⟨b, rfl⟩ : ∃ b : UInt8, (b.toNat : Int) = by_ := by
    have := bounds_u8 hb
    exact u8_of_int by_ this.1 this.2
  refine head1 (l := l) (fun k => rfl) fun hl => ?_
  refine Ev.bind (words_f (b.toNat : Int) l (by omega)) ?_
  refine aw_l0 b l hl (wordsL (b.toNat : Int) l) (wordsGo_ne _ _ _) (by have := wordsGo_len (b.toNat : Int) l []; simp only [wordsL]; omega) (words_no _ l [] (by simp)) (wordsL (b.toNat : Int) l) [] [] rfl ?_
  simp [wordsL, join_words]
end Go.Proofs.Ytlkknhojfhbopaa.Pure
