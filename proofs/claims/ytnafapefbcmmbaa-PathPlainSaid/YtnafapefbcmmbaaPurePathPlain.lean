/- PathPlain: a target without % and ? has just the segments that stand between. No condition. -/
import Derived.Test.YtnafapefbcmmbaaXEncM
import Derived.Test.YtnafapefbcmmbaaXOpens
import Derived.Test.YtnafapefbcmmbaaX20
set_option linter.unusedVariables false
set_option linter.unusedSimpArgs false
namespace Go.Proofs.Ytnafapefbcmmbaa.Pure
open Go.RowKit Go.Proofs.Ytnafapefbcmmbaa.X Go.Proofs.YtnafapefbcmmbaaW.PrintWords Go.Proofs.YtnafapefbcmmbaaW.PrintLast Go.Proofs.Ytnafapefbcmmbaa.M

theorem exBAs (l : List ByteArray) : ∃ ls : List (List UInt8), l = ls.map toBA := ⟨l.map fun s => s.data.toList, by simp [Function.comp_def, toBA_data]⟩
def plainC (c : UInt8) : Prop := c.toNat ≠ 47 ∧ c.toNat ≠ 37 ∧ c.toNat ≠ 63
theorem text_join (l : List (List UInt8)) (h : l ≠ []) : textL id l = 47 :: joinL [47] l := by
  induction l with
  | nil => exact absurd rfl h
  | cons s r ih =>
    cases r with
    | nil => simp [textL, joinL]
    | cons t r => rw [text_ne47, ih (by simp), joinL_cons [47] s (t :: r) (by simp)]; simp
section
theorem plain_l1 (l : List (List UInt8)) (hl : l.length ≤ 8) (s : List UInt8) (hs : s.length ≤ 60) (t : List UInt8) (ht : t.length ≤ 488) (i : Nat) (hi : i < l.length)
    (next : (∀ c ∈ s, plainC c) → Ev (fun k => crossroadlaw06_PathPlain.l0 k (l.map toBA) (toBA (t ++ 47 :: s)) (l.map toBA) (l.length : Int) ((i + 1 : Nat) : Int)) true) (post : List UInt8) : ∀ pre : List UInt8, s = pre ++ post → (∀ c ∈ pre, plainC c) →
    Ev (fun k => crossroadlaw06_PathPlain.l1 k (l.map toBA) (toBA t) (toBA s) (l.map toBA) (l.length : Int) (i : Int) (s.length : Int) (pre.length : Int)) true := by
  induction post with
  | nil =>
    intro pre h hpl
    obtain rfl : s = pre := by simpa using h
    have hw : wrap64 ((i : Int) + 1) = ((i + 1 : Nat) : Int) := by rw [w64 (by omega) (by omega)]; simp
    have s47 : (⟨#[47]⟩ : ByteArray) = toBA [47] := rfl
    refine Ev.step' ?_
    simp only [crossroadlaw06_PathPlain.l1, if_neg (show ¬ (s.length : Int) < (s.length : Int) by omega), hw, s47, toBA_append, toBA_size, if_pos (show 1 + s.length ≤ 9223372036854775807 by omega), List.singleton_append, List.length_cons, if_pos (show t.length + (s.length + 1) ≤ 9223372036854775807 by omega)]
    exact next hpl
  | cons c r ih =>
    intro pre h hpl
    have hp : pre.length < s.length := by subst h; simp
    have hb : bt (toBA s) (pre.length : Int) = (c.toNat : Int) := by rw [h]; exact bt_mid _ _ _
    have hw : wrap64 ((pre.length : Int) + 1) = ((pre ++ [c]).length : Int) := by rw [w64 (by omega) (by omega)]; simp
    refine Ev.step' ?_
    simp only [crossroadlaw06_PathPlain.l1, if_pos (show (pre.length : Int) < (s.length : Int) by omega), if_pos (show (0 : Int) ≤ (pre.length : Int) by omega), toBA_size, hb, hw]
    by_cases h1 : c.toNat = 47
    · simp only [if_pos (show (c.toNat : Int) = 47 by omega)]; exact Ev.now true
    · simp only [if_neg (show ¬ (c.toNat : Int) = 47 by omega)]
      by_cases h2 : c.toNat = 37
      · simp only [if_pos (show (c.toNat : Int) = 37 by omega)]; exact Ev.now true
      · simp only [if_neg (show ¬ (c.toNat : Int) = 37 by omega)]
        by_cases h3 : c.toNat = 63
        · simp only [if_pos (show (c.toNat : Int) = 63 by omega)]; exact Ev.now true
        · simp only [if_neg (show ¬ (c.toNat : Int) = 63 by omega)]
          exact ih (pre ++ [c]) (by simp [h]) (fun x hx => by rcases List.mem_append.1 hx with hx | hx; exact hpl x hx; rw [List.mem_singleton.1 hx]; exact ⟨h1, h2, h3⟩)
theorem plain_end (l : List (List UInt8)) (hl0 : l ≠ []) (hl : l.length ≤ 8) (hsz : ∀ s ∈ l, s.length ≤ 60) (hpl : ∀ s ∈ l, ∀ c ∈ s, plainC c) : Ev (fun k => crossroadlaw06_PathPlain.l0 k (l.map toBA) (toBA (textL id l)) (l.map toBA) (l.length : Int) (l.length : Int)) true := by
  have hlen : (textL id l).length ≤ 488 := by
    have := textL_len id 60 l hsz
    omega
  have hj := text_join l hl0
  have hjl : (joinL [47] l).length ≤ 488 := by rw [hj] at hlen; simp at hlen; omega
  have hb := before_no (textL id l) (text_q id l (fun x hx c hc => (hpl x hx c hc).2.2))
  refine Ev.step' ?_
  simp only [crossroadlaw06_PathPlain.l0, if_neg (show ¬ (l.length : Int) < (l.length : Int) by omega), toBA_toList, List.length_map]
  refine Ev.bind (split_f (textL id l) (by omega)) ?_
  rw [splitL, hb]
  by_cases h1 : textL id l = [47]
  · rw [h1]
    have e : splitT [47] = ([], true) := by decide
    simp only [e, if_true, segsT, List.map_nil, List.length_nil]
    exact Ev.now true
  · rw [split_text id l hl0 (fun x hx c hc => (hpl x hx c hc).1) (fun s hs => turn_plain s (fun c hc => (hpl s hs c hc).2.1)) h1, if_neg (show ¬ l.length > 8 by omega)]
    simp only [if_neg h1, segsT, if_true, List.length_map]
    have hjn : Ev (fun k => path_Join.f k (l.map toBA) 0) (toBA (joinL [47] l)) := by simpa using join_f l (by omega) (fun x hx => by have := hsz x hx; omega) 0 (by omega)
    refine Ev.bind hjn ?_
    have s47 : (⟨#[47]⟩ : ByteArray) = toBA [47] := rfl
    simp only [toBA_size, if_pos (show 1 + (joinL [47] l).length ≤ 9223372036854775807 by omega), s47, toBA_append, toBA_toList, List.singleton_append]
    rw [hj]
    exact Ev.const (by simp)
theorem plain_l0 (l : List (List UInt8)) (hl0 : l ≠ []) (hl : l.length ≤ 8) (post : List (List UInt8)) : ∀ pre : List (List UInt8), l = pre ++ post → (∀ s ∈ pre, s.length ≤ 60) → (∀ s ∈ pre, ∀ c ∈ s, plainC c) →
    Ev (fun k => crossroadlaw06_PathPlain.l0 k (l.map toBA) (toBA (textL id pre)) (l.map toBA) (l.length : Int) (pre.length : Int)) true := by
  induction post with
  | nil =>
    intro pre h hsz hpl
    obtain rfl : l = pre := by simpa using h
    exact plain_end l hl0 hl hsz hpl
  | cons s r ih =>
    intro pre h hsz hpl
    have hp : pre.length < l.length := by subst h; simp
    have hr : rdOf ByteArray.empty (l.map toBA) (pre.length : Int) = toBA s := by rw [h]; exact rdOf_mid _ _ _
    have hlen : (textL id pre).length ≤ pre.length * 61 := textL_len id 60 pre hsz
    refine Ev.step' ?_
    simp only [crossroadlaw06_PathPlain.l0, if_pos (show (pre.length : Int) < (l.length : Int) by omega), if_pos (show (0 : Int) ≤ (pre.length : Int) by omega), List.length_map, hr, toBA_size]
    by_cases hs : s.length > 60
    · simp only [if_pos (show (s.length : Int) > 60 by omega)]; exact Ev.now true
    · simp only [if_neg (show ¬ (s.length : Int) > 60 by omega)]
      have key (hc : ∀ c ∈ s, plainC c) := ih (pre ++ [s]) (by simp [h]) (fun x hx => by rcases List.mem_append.1 hx with hx | hx; exact hsz x hx; rw [List.mem_singleton.1 hx]; omega) (fun x hx => by rcases List.mem_append.1 hx with hx | hx; exact hpl x hx; rw [List.mem_singleton.1 hx]; exact hc)
      rw [textL_snoc, show ((pre ++ [s]).length : Int) = ((pre.length + 1 : Nat) : Int) by simp] at key
      exact plain_l1 l hl s (by omega) (textL id pre) (by omega) pre.length hp key s [] rfl (by simp)
end
theorem PathPlain (l0 : List ByteArray) (_ : l0.length * Try.prog.bytesOf 9 ≤ 140737488351232 ∧ ∀ x ∈ l0, x.size ≤ 140737488351232) : ∃ k, crossroadlaw06_PathPlain.f k l0 = some true := by
  obtain ⟨l, rfl⟩ := exBAs l0
  refine Ev.rounds (g := fun k => crossroadlaw06_PathPlain.f k (l.map toBA)) ?_
  simp only [crossroadlaw06_PathPlain.f, List.length_map]
  refine Ev.bind fit_f ?_
  simp only [if_true]
  have out : Ev (fun k => crossroadlaw06_PathPlain.j0 k (l.map toBA) true) true := by
    refine Ev.step' ?_
    simp only [crossroadlaw06_PathPlain.j0, if_true]
    exact Ev.now true
  by_cases h0 : l = []
  · subst h0
    simp only [List.length_nil, Int.natCast_zero, if_true]
    exact out
  · have hp : 0 < l.length := List.length_pos_iff.2 h0
    simp only [if_neg (show ¬ (l.length : Int) = 0 by omega)]
    by_cases h8 : l.length > 8
    · simp only [decide_eq_true (show (l.length : Int) > 8 by omega)]
      exact out
    · simp only [decide_eq_false (show ¬ (l.length : Int) > 8 by omega)]
      refine Ev.step' ?_
      have s0 : (⟨#[]⟩ : ByteArray) = toBA [] := rfl
      simp only [crossroadlaw06_PathPlain.j0, Bool.false_eq_true, if_false, List.length_map, s0]
      exact plain_l0 l h0 (by omega) l [] rfl (by simp) (by simp)
end Go.Proofs.Ytnafapefbcmmbaa.Pure
