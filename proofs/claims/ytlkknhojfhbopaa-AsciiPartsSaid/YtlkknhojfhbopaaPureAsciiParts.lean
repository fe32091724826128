/- AsciiParts: for every text and byte there is one word more than there are such bytes, and the words' lengths are what is left. No condition. -/
import Derived.Test.YtlkknhojfhbopaaXFit01
import Derived.Test.YtlkknhojfhbopaaXWordsFacts
import Derived.Test.YtlkknhojfhbopaaX7
set_option linter.unusedVariables false
set_option linter.unusedSimpArgs false
namespace Go.Proofs.Ytlkknhojfhbopaa.Pure
open Go.RowKit Go.Proofs.Ytlkknhojfhbopaa.X Go.Proofs.YtlkknhojfhbopaaW.PrintWords Go.Proofs.YtlkknhojfhbopaaW.PrintLast Go.Proofs.Ytlkknhojfhbopaa.M

theorem ap_l1 (l : List UInt8) (hl : l.length ≤ 1000) (n : Int) (hn : 1 ≤ n ∧ n ≤ 1001) (ws : List (List UInt8)) (hc : (ws.length : Int) = n) (hs : sizes ws = (l.length : Int) - (n - 1)) (post : List (List UInt8)) : ∀ (pre : List (List UInt8)) (x8 : Int), ws = pre ++ post → x8 + sizes post = sizes ws → 0 ≤ x8 →
    Ev (fun k => crossroadlaw01_AsciiParts.l1 k (toBA l) n (ws.map toBA) x8 (ws.map toBA) ((ws.map toBA).length : Int) (pre.length : Int)) true := by
  have hlen : (ws.map toBA).length = ws.length := by simp
  induction post with
  | nil =>
    intro pre x8 h hx h0
    have hp : pre.length = ws.length := by subst h; simp
    simp only [sizes] at hx
    refine Ev.step' ?_
    simp only [crossroadlaw01_AsciiParts.l1, hlen, if_neg (show ¬ (pre.length : Int) < (ws.length : Int) by omega), if_pos hc, toBA_size, w64 (x := n - 1) (by omega) (by omega), w64 (x := (l.length : Int) - (n - 1)) (by omega) (by omega)]
    rw [show x8 = (l.length : Int) - (n - 1) by omega]
    exact Ev.const (by simp)
  | cons w r ih =>
    intro pre x8 h hx h0
    have hp : pre.length < ws.length := by subst h; simp
    have hr : rdOf ByteArray.empty (ws.map toBA) (pre.length : Int) = toBA w := by rw [h]; simp [rdOf]
    have hw : wrap64 ((pre.length : Int) + 1) = ((pre ++ [w]).length : Int) := by rw [w64 (by omega) (by omega)]; simp
    simp only [sizes] at hx
    have := sizes_nonneg r
    have hw2 : wrap64 (x8 + (w.length : Int)) = x8 + (w.length : Int) := w64 (by omega) (by omega)
    refine Ev.step' ?_
    simp only [crossroadlaw01_AsciiParts.l1, hlen, if_pos (show (pre.length : Int) < (ws.length : Int) by omega), if_pos (show (0 : Int) ≤ (pre.length : Int) by omega), hr, toBA_size, hw, hw2]
    have := ih (pre ++ [w]) (x8 + (w.length : Int)) (by simp [h]) (by omega) (by omega)
    rwa [hlen] at this
theorem ap_l0 (b : Int) (l : List UInt8) (hl : l.length ≤ 1000) (rest : List UInt8) : ∀ (pre : List UInt8) (n : Int), l = pre ++ rest → n + (rest.countP (fun c => (c.toNat : Int) = b) : Int) = (l.countP (fun c => (c.toNat : Int) = b) : Int) + 1 → 1 ≤ n →
    Ev (fun k => crossroadlaw01_AsciiParts.l0 k (toBA l) b n (l.length : Int) (pre.length : Int)) true := by
  have hcl : l.countP (fun c => (c.toNat : Int) = b) ≤ l.length := List.countP_le_length
  induction rest with
  | nil =>
    intro pre n h hn h1
    have hp : pre.length = l.length := by subst h; simp
    simp only [List.countP_nil] at hn
    refine Ev.step' ?_
    simp only [crossroadlaw01_AsciiParts.l0, if_neg (show ¬ (pre.length : Int) < (l.length : Int) by omega)]
    refine Ev.bind (words_f b l (by omega)) ?_
    have hc := words_count b l []
    have hs := words_sizes b l []
    exact ap_l1 l hl n (by omega) (wordsL b l) (by simp only [wordsL]; omega) (by simp only [wordsL, hs, List.length_nil]; omega) (wordsL b l) [] 0 rfl (by omega) (by omega)
  | cons c r ih =>
    intro pre n h hn h1
    have hp : pre.length < l.length := by subst h; simp
    have hb : bt (toBA l) (pre.length : Int) = (c.toNat : Int) := by rw [h]; exact bt_mid _ _ _
    have hw : wrap64 ((pre.length : Int) + 1) = ((pre ++ [c]).length : Int) := by rw [w64 (by omega) (by omega)]; simp
    rw [List.countP_cons] at hn
    refine Ev.step' ?_
    simp only [crossroadlaw01_AsciiParts.l0, if_pos (show (pre.length : Int) < (l.length : Int) by omega), toBA_size, if_pos (show (0 : Int) ≤ (pre.length : Int) by omega), hb, hw]
    by_cases hc : (c.toNat : Int) = b
    · simp only [if_pos hc, decide_eq_true hc, if_true] at hn ⊢
      rw [w64 (x := n + 1) (by omega) (by omega)]
      exact ih (pre ++ [c]) (n + 1) (by simp [h]) (by omega) (by omega)
    · simp only [if_neg hc, decide_eq_false hc] at hn ⊢
      exact ih (pre ++ [c]) n (by simp [h]) (by simpa using hn) h1
theorem AsciiParts : crossroadlaw01_AsciiParts.Pure := by
  intro s b hs hb
  obtain ⟨l, rfl⟩ := exBA s
  refine head1 (l := l) (fun k => rfl) fun hl => ?_
  simp only [toBA_size]
  exact ap_l0 b l hl l [] 1 rfl (by omega) (by omega)
end Go.Proofs.Ytlkknhojfhbopaa.Pure
