/- PathShapes: shapes leave out just the names; kinds are told by the first sign; segments are joined from one on. No condition. -/
import Derived.Test.YtnafapefbcmmbaaXPatM
import Derived.Test.YtnafapefbcmmbaaXBits
import Derived.Test.YtnafapefbcmmbaaX18
set_option linter.unusedVariables false
set_option linter.unusedSimpArgs false
namespace Go.Proofs.Ytnafapefbcmmbaa.Pure
open Go.RowKit Go.Proofs.Ytnafapefbcmmbaa.X Go.Proofs.YtnafapefbcmmbaaW.PrintWords Go.Proofs.YtnafapefbcmmbaaW.PrintLast Go.Proofs.Ytnafapefbcmmbaa.M

theorem pat_ne (l : List (List UInt8)) : ∀ names, patGo names l = true → ∀ x ∈ l, x ≠ [] := by
  induction l with
  | nil => intro _ _ x hx; simp at hx
  | cons y r ih =>
    intro names h x hx
    rw [patGo_cons] at h
    have hy : y ≠ [] := by
      intro e
      rw [e] at h
      simp [kindL, tokenL] at h
    rcases List.mem_cons.1 hx with rfl | hx
    · exact hy
    · split at h
      · exact ih _ (by simp at h; exact h.2) x hx
      · split at h
        · cases h
        · exact ih _ (by simp at h; exact h.2) x hx
theorem patL_ok (s : List UInt8) (hs : s.length ≤ 600) (h : (patL s).2 = true) : (patL s).1.length ≤ 8 ∧ (∀ x ∈ (patL s).1, x ≠ []) ∧ ∀ x ∈ (patL s).1, x.length ≤ 600 := by
  cases s with
  | nil => simp [patL, slash1] at h
  | cons c t =>
    by_cases hc : c.toNat = 47
    · rw [patL_cons c t hc] at h ⊢
      by_cases h1 : (c :: t) = [47]
      · rw [if_pos h1]; simp
      · rw [if_neg h1] at h ⊢
        by_cases hg : patGo [] (wordsL 47 t) = true
        · rw [if_pos hg] at h ⊢
          refine ⟨of_decide_eq_true h, pat_ne _ _ hg, fun x hx => ?_⟩
          have := wordsL_len_le 47 t x hx
          simp at hs; omega
        · rw [if_neg hg] at h; simp at h
    · rw [patL_no c t hc] at h; simp at h
section
theorem shapes_l1 (l : List (List UInt8)) (hl : l.length ≤ 8) (hx : ∀ x ∈ l, x.length ≤ 600) (n : Nat) (hn : n ≤ 15) (post : List (List UInt8)) : ∀ pre : List (List UInt8), l.drop n = pre ++ post →
    Ev (fun k => crossroadlaw06_PathShapes.l1 k (n : Int) (l.map toBA) (toBA (shapeL l)) (toBA (joinL [47] pre)) ((n + pre.length : Nat) : Int)) true := by
  induction post with
  | nil =>
    intro pre h
    have hp : pre.length = l.length - n := by have := congrArg List.length h; simp at this; omega
    refine Ev.step' ?_
    simp only [crossroadlaw06_PathShapes.l1, List.length_map, if_neg (show ¬ ((n + pre.length : Nat) : Int) < (l.length : Int) by omega)]
    refine Ev.bind (shape_f l (by omega) (fun x h => by have := hx x h; omega)) ?_
    simp only [if_true]
    refine Ev.bind (join_f l (by omega) (fun x h => by have := hx x h; omega) n (by omega)) ?_
    have hd : l.drop n = pre := by simpa using h
    rw [hd]
    simp only [if_true]
    exact Ev.bind (kind_f []) (Ev.const rfl)
  | cons x r ih =>
    intro pre h
    have hlen := congrArg List.length h
    simp only [List.length_drop, List.length_append, List.length_cons] at hlen
    have e : l = (l.take n ++ pre) ++ x :: r := by rw [List.append_assoc, ← h, List.take_append_drop]
    have hr : rdOf ByteArray.empty (l.map toBA) ((n + pre.length : Nat) : Int) = toBA x := by
      have := rdOf_mid (l.take n ++ pre) x r
      rw [← e, List.length_append, List.length_take, Nat.min_eq_left (by omega)] at this
      exact this
    have hxl := hx x (by rw [e]; simp)
    have hjl := joinL_len pre (fun y hy => by have := hx y (by rw [e]; simp [hy]); omega)
    have key := ih (pre ++ [x]) (by simp [h])
    rw [joinL_snoc] at key
    have hw : wrap64 (((n + pre.length : Nat) : Int) + 1) = ((n + (pre ++ [x]).length : Nat) : Int) := by rw [w64 (by omega) (by omega)]; simp; omega
    have s1 : (⟨#[47]⟩ : ByteArray) = toBA [47] := rfl
    refine Ev.step' ?_
    simp only [crossroadlaw06_PathShapes.l1, List.length_map, if_pos (show ((n + pre.length : Nat) : Int) < (l.length : Int) by omega), if_pos (show (0 : Int) ≤ ((n + pre.length : Nat) : Int) by omega), hr, hw, s1, toBA_append, toBA_size]
    by_cases h0 : pre = []
    · subst h0
      have key' : Ev (fun k => crossroadlaw06_PathShapes.l1 k (n : Int) (l.map toBA) (toBA (shapeL l)) (toBA ([] ++ x)) ((n + ([] ++ [x] : List (List UInt8)).length : Nat) : Int)) true := by simpa using key
      simp only [if_neg (show ¬ ((n + 0 : Nat) : Int) > (n : Int) by simp), joinL, List.length_nil, Nat.zero_add, if_pos (show x.length ≤ 9223372036854775807 by omega)]
      exact key'
    · have hp0 : 0 < pre.length := List.length_pos_iff.2 h0
      rw [if_neg h0] at key
      have h1 : (joinL [47] pre ++ [47]).length = (joinL [47] pre).length + 1 := by simp
      simp only [if_pos (show ((n + pre.length : Nat) : Int) > (n : Int) by omega), if_pos (show (joinL [47] pre).length + 1 ≤ 9223372036854775807 by omega), h1, if_pos (show (joinL [47] pre).length + 1 + x.length ≤ 9223372036854775807 by omega)]
      exact key
theorem shapes_l0 (l : List (List UInt8)) (hl : l.length ≤ 8) (hne : ∀ x ∈ l, x ≠ []) (hx : ∀ x ∈ l, x.length ≤ 600) (a1 : Int) (post : List (List UInt8)) : ∀ pre : List (List UInt8), l = pre ++ post →
    Ev (fun k => crossroadlaw06_PathShapes.l0 k a1 (l.map toBA) (toBA (shapeL pre)) (l.map toBA) (l.length : Int) (pre.length : Int)) true := by
  induction post with
  | nil =>
    intro pre h
    obtain rfl : l = pre := by simpa using h
    refine Ev.step' ?_
    simp only [crossroadlaw06_PathShapes.l0, if_neg (show ¬ (l.length : Int) < (l.length : Int) by omega), i64_and15]
    obtain ⟨n, hn⟩ : ∃ n : Nat, (n : Int) = a1 % 16 := ⟨(a1 % 16).toNat, by omega⟩
    rw [← hn]
    exact shapes_l1 l hl hx n (by omega) (l.drop n) [] rfl
  | cons x r ih =>
    intro pre h
    have hp : pre.length < l.length := by subst h; simp
    have hr : rdOf ByteArray.empty (l.map toBA) (pre.length : Int) = toBA x := by rw [h]; exact rdOf_mid _ _ _
    have hw : wrap64 ((pre.length : Int) + 1) = ((pre ++ [x]).length : Int) := by rw [w64 (by omega) (by omega)]; simp
    have hxl := hx x (by rw [h]; simp)
    have hxn := hne x (by rw [h]; simp)
    have hsl : (shapeL pre).length ≤ pre.length * 100001 := by
      have aux : ∀ q : List (List UInt8), (∀ y ∈ q, y.length ≤ 600) → (shapeL q).length ≤ q.length * 100001 := by
        intro q
        induction q with
        | nil => simp [shapeL]
        | cons y q ih =>
          intro hq
          have h1 := segL_len y (by have := hq y (by simp); omega)
          have h2 := ih (fun z hz => hq z (by simp [hz]))
          rw [show shapeL (y :: q) = segL y ++ shapeL q from rfl]
          simp only [List.length_append, List.length_cons]; omega
      exact aux pre (fun y hy => hx y (by rw [h]; simp [hy]))
    have key := ih (pre ++ [x]) (by simp [h])
    rw [show shapeL (pre ++ [x]) = shapeL pre ++ segL x by simp [shapeL]] at key
    cases x with
    | nil => exact absurd rfl hxn
    | cons c t =>
      have hb : bt (toBA (c :: t)) 0 = (c.toNat : Int) := bt_mid [] t c
      have s1 : (⟨#[47]⟩ : ByteArray) = toBA [47] := rfl
      have s2 : (⟨#[47, 58]⟩ : ByteArray) = toBA [47, 58] := rfl
      have s3 : (⟨#[47, 42]⟩ : ByteArray) = toBA [47, 42] := rfl
      have hl1 : (c :: t).length ≤ 600 := hxl
      refine Ev.step' ?_
      simp only [crossroadlaw06_PathShapes.l0, if_pos (show (pre.length : Int) < (l.length : Int) by omega), if_pos (show (0 : Int) ≤ (pre.length : Int) by omega), List.length_map, hr, hw, toBA_size, if_pos (show (0 : Int) < ((c :: t).length : Int) by simp only [List.length_cons]; omega), hb, s1, s2, s3, toBA_append]
      have k0 := kind_f (c :: t)
      by_cases h1 : c.toNat = 58
      · have hk : kindL (c :: t) = 1 := by simp [kindL, h1]
        have hsg : segL (c :: t) = [47, 58] := by simp [segL, hk]
        rw [hsg] at key
        rw [hk] at k0
        simp only [if_pos (show (c.toNat : Int) = 58 by omega), if_pos (show (shapeL pre).length + 2 ≤ 9223372036854775807 by omega)]
        refine Ev.bind k0 ?_
        simp only [if_true]
        exact key
      · simp only [if_neg (show ¬ (c.toNat : Int) = 58 by omega)]
        by_cases h2 : c.toNat = 42
        · have hk : kindL (c :: t) = 2 := by simp [kindL, h2]
          have hsg : segL (c :: t) = [47, 42] := by simp [segL, hk]
          rw [hsg] at key
          rw [hk] at k0
          simp only [if_pos (show (c.toNat : Int) = 42 by omega), if_pos (show (shapeL pre).length + 2 ≤ 9223372036854775807 by omega)]
          refine Ev.bind k0 ?_
          simp only [if_true]
          exact key
        · have hk : kindL (c :: t) = 0 := by simp [kindL, h1, h2]
          have hsg : segL (c :: t) = [47] ++ (c :: t) := by simp [segL, hk]
          rw [hsg] at key
          rw [hk] at k0
          have e1 : ([47] ++ (c :: t) : List UInt8).length = 1 + (c :: t).length := by simp; omega
          simp only [if_neg (show ¬ (c.toNat : Int) = 42 by omega), if_pos (show 1 + (c :: t).length ≤ 9223372036854775807 by omega), e1, if_pos (show (shapeL pre).length + (1 + (c :: t).length) ≤ 9223372036854775807 by omega)]
          refine Ev.bind k0 ?_
          simp only [if_true]
          exact key
end
theorem PathShapes : crossroadlaw06_PathShapes.Pure := by
  intro a0 a1 s0 _
  obtain ⟨s, rfl⟩ := exBA a0
  refine Ev.rounds (g := fun k => crossroadlaw06_PathShapes.f k (toBA s) a1) ?_
  simp only [crossroadlaw06_PathShapes.f, light_f, Option.bind_some]
  refine Ev.bind fit_f ?_
  simp only [if_true]
  by_cases hs : s.length ≤ 600
  · simp only [decide_eq_true hs, if_true]
    refine Ev.bind (pat_f s (by omega)) ?_
    cases hp : (patL s).2 with
    | false =>
      simp only [segsT, hp, Bool.false_eq_true, if_false]
      exact Ev.now true
    | true =>
      obtain ⟨h1, h2, h3⟩ := patL_ok s hs hp
      simp only [segsT, hp, if_true, List.length_map]
      exact shapes_l0 (patL s).1 h1 h2 h3 a1 (patL s).1 [] rfl
  · simp only [decide_eq_false hs, Bool.false_eq_true, if_false]
    exact Ev.now true
end Go.Proofs.Ytnafapefbcmmbaa.Pure
