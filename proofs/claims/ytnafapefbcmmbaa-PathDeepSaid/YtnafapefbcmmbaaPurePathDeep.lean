/- PathDeep: as many segments as may be are split, and taken as a pattern, and no more. No condition. -/
import Derived.Test.YtnafapefbcmmbaaXPatM
import Derived.Test.YtnafapefbcmmbaaXBits
import Derived.Test.YtnafapefbcmmbaaX19
set_option linter.unusedVariables false
set_option linter.unusedSimpArgs false
namespace Go.Proofs.Ytnafapefbcmmbaa.Pure
open Go.RowKit Go.Proofs.Ytnafapefbcmmbaa.X Go.Proofs.YtnafapefbcmmbaaW.PrintWords Go.Proofs.YtnafapefbcmmbaaW.PrintLast Go.Proofs.Ytnafapefbcmmbaa.M

def deepS (n : Nat) : List UInt8 := (List.replicate n ([47, 97] : List UInt8)).flatten
def segsA (n : Nat) : List (List UInt8) := List.replicate n [97]
/-- What each of the sixteen comes to. -/
theorem deep_split : ∀ n : Fin 17, 1 ≤ n.val → splitL (deepS n.val) = if n.val ≤ 8 then (segsA n.val, true) else ([], false) := by
  intro n
  have one : turnL [97] = some [97] := by rw [turnL_other _ _ (by decide), turnL_nil]; rfl
  have ts (m : Nat) : turnsL (segsA m) = some (segsA m) := by
    induction m with
    | zero => rfl
    | succ m ih =>
      rw [show segsA (m + 1) = [97] :: segsA m from rfl, turnsL, one]
      simp only [ih, Option.map_some]
  have hq : ∀ n : Fin 17, beforeQ (deepS n.val) = deepS n.val := by decide +kernel
  have hw : ∀ n : Fin 17, 1 ≤ n.val → wordsL 47 (deepS n.val).tail = segsA n.val := by decide +kernel
  have h0 : ∀ n : Fin 17, 1 ≤ n.val → slash1 (deepS n.val) = true ∧ deepS n.val ≠ [47] := by decide +kernel
  intro h1
  rw [splitL, hq, splitT, if_neg (by rw [(h0 n h1).1]; simp), if_neg (h0 n h1).2, hw n h1, ts]
  have : (segsA n.val).length = n.val := by simp [segsA]
  rw [this]
  by_cases h8 : n.val ≤ 8
  · rw [if_neg (by omega), if_pos h8]
  · rw [if_pos (by omega), if_neg h8]
theorem deep_pat : ∀ n : Fin 17, 1 ≤ n.val → patL (deepS n.val) = (segsA n.val, decide (n.val ≤ 8)) := by decide +kernel
theorem deep_shape : ∀ n : Fin 17, shapeL (segsA n.val) = deepS n.val := by decide +kernel
theorem deep_end (n : Nat) (h1 : 1 ≤ n) (h2 : n ≤ 16) : Ev (fun k => crossroadlaw06_PathDeep.l0 k (n : Int) (toBA (deepS n)) (n : Int) (n : Int)) true := by
  have hl : (deepS n).length ≤ 100000 := by simp [deepS]; omega
  have d1 := deep_split ⟨n, by omega⟩ h1
  have d2 := deep_pat ⟨n, by omega⟩ h1
  have d3 := deep_shape ⟨n, by omega⟩
  simp only at d1 d2 d3
  have ha : (segsA n).length = n := by simp [segsA]
  have hx : ∀ x ∈ segsA n, x.length ≤ 100000 := fun x hx => by rw [(List.mem_replicate.1 hx).2]; decide
  refine Ev.step' ?_
  simp only [crossroadlaw06_PathDeep.l0, if_neg (show ¬ (n : Int) < (n : Int) by omega)]
  refine Ev.bind (split_f (deepS n) hl) ?_
  refine Ev.bind (pat_f (deepS n) hl) ?_
  rw [d1, d2]
  have joins (l : List (List UInt8)) (hl : l.length ≤ 16) (hx : ∀ x ∈ l, x.length ≤ 100000) : Ev (fun k => (path_Join.f k (l.map toBA) 0).bind fun t => (path_Join.f k (l.map toBA) 0).bind fun t' => some (t.toList == t'.toList)) true := by
    have j := join_f l (by omega) hx 0 (by omega)
    refine Ev.bind j ?_
    refine Ev.bind j ?_
    exact Ev.const (by simp)
  by_cases h8 : n ≤ 8
  · have e8 : decide ((n : Int) ≤ 8) = true := decide_eq_true (by omega)
    simp only [if_pos h8, decide_eq_true h8, segsT, e8, beq_self_eq_true, if_true, List.length_map, ha]
    refine Ev.bind (shape_f (segsA n) (by omega) hx) ?_
    rw [d3]
    simp only [if_true]
    exact joins (segsA n) (by omega) hx
  · have e8 : decide ((n : Int) ≤ 8) = false := decide_eq_false (by omega)
    simp only [if_neg h8, decide_eq_false h8, segsT, e8, beq_self_eq_true, if_true, Bool.false_eq_true, if_false]
    exact joins [] (by simp) (by simp)
theorem deep_l0 (n : Nat) (h1 : 1 ≤ n) (h2 : n ≤ 16) (r : Nat) : ∀ i, i + r = n → Ev (fun k => crossroadlaw06_PathDeep.l0 k (n : Int) (toBA (deepS i)) (n : Int) (i : Int)) true := by
  induction r with
  | zero =>
    intro i h
    obtain rfl : i = n := by omega
    exact deep_end i h1 h2
  | succ r ih =>
    intro i h
    have hw : wrap64 ((i : Int) + 1) = ((i + 1 : Nat) : Int) := by rw [w64 (by omega) (by omega)]; omega
    have s2 : (⟨#[47, 97]⟩ : ByteArray) = toBA [47, 97] := rfl
    have e : deepS i ++ [47, 97] = deepS (i + 1) := by simp [deepS, List.replicate_succ']
    have hl : (deepS i).length = i * 2 := by simp [deepS]
    refine Ev.step' ?_
    simp only [crossroadlaw06_PathDeep.l0, if_pos (show (i : Int) < (n : Int) by omega), toBA_size, if_pos (show (deepS i).length + 2 ≤ 9223372036854775807 by omega), s2, toBA_append, e, hw]
    exact ih (i + 1) (by omega)
theorem PathDeep : crossroadlaw06_PathDeep.Pure := by
  intro a0 _
  refine Ev.rounds (g := fun k => crossroadlaw06_PathDeep.f k a0) ?_
  simp only [crossroadlaw06_PathDeep.f, i64_and15]
  refine Ev.bind fit_f ?_
  simp only [if_true]
  obtain ⟨n, hn⟩ : ∃ n : Nat, (n : Int) = a0 % 16 + 1 := ⟨(a0 % 16 + 1).toNat, by omega⟩
  rw [w64 (x := a0 % 16 + 1) (by omega) (by omega), ← hn]
  exact deep_l0 n (by omega) (by omega) n 0 (by omega)
end Go.Proofs.Ytnafapefbcmmbaa.Pure
