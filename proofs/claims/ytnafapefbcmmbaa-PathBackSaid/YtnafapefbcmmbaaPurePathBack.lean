/- PathBack: segments of any bytes come back from a target that has them, turned or not. No condition. -/
import Derived.Test.YtnafapefbcmmbaaXEncM
import Derived.Test.YtnafapefbcmmbaaXBits
import Derived.Test.YtnafapefbcmmbaaXOpens
import Derived.Test.YtnafapefbcmmbaaX14
set_option linter.unusedVariables false
set_option linter.unusedSimpArgs false
namespace Go.Proofs.Ytnafapefbcmmbaa.Pure
open Go.RowKit Go.Proofs.Ytnafapefbcmmbaa.X Go.Proofs.YtnafapefbcmmbaaW.PrintWords Go.Proofs.YtnafapefbcmmbaaW.PrintLast Go.Proofs.Ytnafapefbcmmbaa.M

theorem exBAs (l : List ByteArray) : ∃ ls : List (List UInt8), l = ls.map toBA := ⟨l.map fun s => s.data.toList, by simp [Function.comp_def, toBA_data]⟩
theorem hex_fin : ∀ n : Fin 256, crossroadlaw06_hex.f (n.val : Int) = some ⟨#[37, hd16 (n.val / 16), hd16 (n.val % 16)]⟩ := by decide +kernel
theorem hex_f (c : UInt8) : crossroadlaw06_hex.f (c.toNat : Int) = some (toBA [37, hd16 (c.toNat / 16), hd16 (c.toNat % 16)]) := hex_fin ⟨c.toNat, c.toNat_lt⟩
section
theorem back_l2 (l : List (List UInt8)) (hl : l.length ≤ 12) (post : List (List UInt8)) : ∀ pre : List (List UInt8), l = pre ++ post →
    Ev (fun k => crossroadlaw06_PathBack.l2 k (l.map toBA) (l.map toBA) (l.length : Int) (pre.length : Int)) true := by
  induction post with
  | nil =>
    intro pre h
    have hp : pre.length = l.length := by subst h; simp
    refine Ev.step' ?_
    simp only [crossroadlaw06_PathBack.l2, if_neg (show ¬ (pre.length : Int) < (l.length : Int) by omega)]
    exact Ev.now true
  | cons x r ih =>
    intro pre h
    have hp : pre.length < l.length := by subst h; simp
    have hw : wrap64 ((pre.length : Int) + 1) = ((pre ++ [x]).length : Int) := by rw [w64 (by omega) (by omega)]; simp
    refine Ev.step' ?_
    simp only [crossroadlaw06_PathBack.l2, if_pos (show (pre.length : Int) < (l.length : Int) by omega), if_pos (show (0 : Int) ≤ (pre.length : Int) by omega), List.length_map, if_true, hw]
    exact ih (pre ++ [x]) (by simp [h])
theorem back_l1 (l : List (List UInt8)) (q : List UInt8) (all : Bool) (hl : l.length ≤ 12) (s : List UInt8) (hs : s.length ≤ 60) (t : List UInt8) (ht : t.length ≤ 2172) (i : Nat) (hi : i < l.length)
    (next : Ev (fun k => crossroadlaw06_PathBack.l0 k (l.map toBA) (toBA q) all (toBA (t ++ encS all s)) (l.map toBA) (l.length : Int) ((i + 1 : Nat) : Int)) true) (post : List UInt8) : ∀ pre : List UInt8, s = pre ++ post →
    Ev (fun k => crossroadlaw06_PathBack.l1 k (l.map toBA) (toBA q) all (toBA (t ++ encS all pre)) (toBA s) (l.map toBA) (l.length : Int) (i : Int) (s.length : Int) (pre.length : Int)) true := by
  induction post with
  | nil =>
    intro pre h
    obtain rfl : s = pre := by simpa using h
    have hw : wrap64 ((i : Int) + 1) = ((i + 1 : Nat) : Int) := by rw [w64 (by omega) (by omega)]; simp
    refine Ev.step' ?_
    simp only [crossroadlaw06_PathBack.l1, if_neg (show ¬ (s.length : Int) < (s.length : Int) by omega), hw]
    exact next
  | cons c r ih =>
    intro pre h
    have hp : pre.length < s.length := by subst h; simp
    have hb : bt (toBA s) (pre.length : Int) = (c.toNat : Int) := by rw [h]; exact bt_mid _ _ _
    have hw : wrap64 ((pre.length : Int) + 1) = (pre.length : Int) + 1 := w64 (by omega) (by omega)
    have hel := encS_len all pre
    have key := ih (pre ++ [c]) (by simp [h])
    have e1 : encS all (pre ++ [c]) = encS all pre ++ encB all c := by simp [encS]
    rw [e1, ← List.append_assoc, show ((pre ++ [c]).length : Int) = (pre.length : Int) + 1 by simp] at key
    have hcut : (toBA s).extract (pre.length : Int).toNat ((pre.length : Int) + 1).toNat = toBA [c] := by
      rw [toBA_extract, h]
      congr 1
      rw [Int.toNat_natCast, List.drop_left, show ((pre.length : Int) + 1).toNat - pre.length = 1 by omega]; rfl
    refine Ev.step' ?_
    simp only [crossroadlaw06_PathBack.l1, if_pos (show (pre.length : Int) < (s.length : Int) by omega), if_pos (show (0 : Int) ≤ (pre.length : Int) by omega), toBA_size, hb, hex_f, Option.bind_some, hw, hcut, toBA_append, List.length_append, List.length_cons, List.length_nil, if_pos (show (pre.length : Int) ≤ (pre.length : Int) + 1 by omega), if_pos (show (pre.length : Int) + 1 ≤ (s.length : Int) by omega), if_pos (show t.length + (encS all pre).length + (0 + 1 + 1 + 1) ≤ 9223372036854775807 by omega), if_pos (show t.length + (encS all pre).length + (0 + 1) ≤ 9223372036854775807 by omega)]
    unfold encB at key
    cases all with
    | true => simpa using key
    | false =>
      simp only [Bool.false_eq_true, if_false, Bool.false_or] at key ⊢
      by_cases h1 : c.toNat = 47
      · simp only [if_pos (show (c.toNat : Int) = 47 by omega)]
        simpa [h1] using key
      · simp only [if_neg (show ¬ (c.toNat : Int) = 47 by omega)]
        by_cases h2 : c.toNat = 63
        · simp only [if_pos (show (c.toNat : Int) = 63 by omega)]
          simpa [h1, h2] using key
        · simp only [if_neg (show ¬ (c.toNat : Int) = 63 by omega)]
          by_cases h3 : c.toNat = 37
          · simp only [if_pos (show (c.toNat : Int) = 37 by omega)]
            simpa [h1, h2, h3] using key
          · simp only [if_neg (show ¬ (c.toNat : Int) = 37 by omega)]
            simpa [h1, h2, h3] using key
theorem back_end (l : List (List UInt8)) (q : List UInt8) (all : Bool) (hl0 : l ≠ []) (hl : l.length ≤ 12) (hq : q.length ≤ 600) (hsz : ∀ s ∈ l, s.length ≤ 60) (n : Nat) : Ev (fun k => crossroadlaw06_PathBack.l0 k (l.map toBA) (toBA q) all (toBA (textL (encS all) l)) (l.map toBA) (l.length : Int) (l.length : Int)) true := by
  have hlen : (textL (encS all) l).length ≤ 2172 := by
    have := textL_len (encS all) 180 l (fun s hs => by have := encS_len all s; have := hsz s hs; omega)
    omega
  refine Ev.step' ?_
  have s63 : (⟨#[63]⟩ : ByteArray) = toBA [63] := rfl
  simp only [crossroadlaw06_PathBack.l0, if_neg (show ¬ (l.length : Int) < (l.length : Int) by omega), toBA_toList, toBA_size, s63, toBA_append]
  by_cases h1 : textL (encS all) l = [47]
  · simp only [if_pos h1]; exact Ev.now true
  · simp only [if_neg h1, if_pos (show (textL (encS all) l).length + 1 ≤ 9223372036854775807 by omega), List.length_append, List.length_singleton, if_pos (show (textL (encS all) l).length + 1 + q.length ≤ 9223372036854775807 by omega)]
    refine Ev.bind (split_f (textL (encS all) l ++ [63] ++ q) (by simp; omega)) ?_
    have hb := before_q (textL (encS all) l) q (text_q (encS all) l (fun x _ c hc => (encS_ne all x c hc).2))
    rw [show textL (encS all) l ++ [63] ++ q = textL (encS all) l ++ 63 :: q by simp, splitL, hb, split_text (encS all) l hl0 (fun x _ c hc => (encS_ne all x c hc).1) (fun s _ => turn_enc all s) h1]
    simp only [List.length_map]
    by_cases h8 : l.length > 8
    · simp only [if_pos h8, if_pos (show (l.length : Int) > 8 by omega), segsT, Bool.false_eq_true, if_false, List.map_nil, List.length_nil]
      exact Ev.now true
    · have e : ((l.length : Int) != (l.length : Int)) = false := by simp
      simp only [if_neg h8, if_neg (show ¬ (l.length : Int) > 8 by omega), segsT, if_true, List.length_map, e]
      refine Ev.step' ?_
      simp only [crossroadlaw06_PathBack.j3, Bool.false_eq_true, if_false, List.length_map]
      exact back_l2 l hl l [] rfl
theorem back_l0 (l : List (List UInt8)) (q : List UInt8) (all : Bool) (hl0 : l ≠ []) (hl : l.length ≤ 12) (hq : q.length ≤ 600) (post : List (List UInt8)) : ∀ pre : List (List UInt8), l = pre ++ post → (∀ s ∈ pre, s.length ≤ 60) →
    Ev (fun k => crossroadlaw06_PathBack.l0 k (l.map toBA) (toBA q) all (toBA (textL (encS all) pre)) (l.map toBA) (l.length : Int) (pre.length : Int)) true := by
  induction post with
  | nil =>
    intro pre h hsz
    obtain rfl : l = pre := by simpa using h
    exact back_end l q all hl0 hl hq hsz 0
  | cons s r ih =>
    intro pre h hsz
    have hp : pre.length < l.length := by subst h; simp
    have hr : rdOf ByteArray.empty (l.map toBA) (pre.length : Int) = toBA s := by rw [h]; exact rdOf_mid _ _ _
    have hlen : (textL (encS all) pre).length ≤ pre.length * 181 := textL_len (encS all) 180 pre (fun s hs => by have := encS_len all s; have := hsz s hs; omega)
    have s47 : (⟨#[47]⟩ : ByteArray) = toBA [47] := rfl
    refine Ev.step' ?_
    simp only [crossroadlaw06_PathBack.l0, if_pos (show (pre.length : Int) < (l.length : Int) by omega), if_pos (show (0 : Int) ≤ (pre.length : Int) by omega), List.length_map, hr, toBA_size, s47, toBA_append]
    by_cases hs : s.length > 60
    · simp only [if_pos (show (s.length : Int) > 60 by omega)]; exact Ev.now true
    · simp only [if_neg (show ¬ (s.length : Int) > 60 by omega), if_pos (show (textL (encS all) pre).length + 1 ≤ 9223372036854775807 by omega)]
      have key := ih (pre ++ [s]) (by simp [h]) (fun x hx => by rcases List.mem_append.1 hx with hx | hx; exact hsz x hx; rw [List.mem_singleton.1 hx]; omega)
      rw [textL_snoc, show ((pre ++ [s]).length : Int) = ((pre.length + 1 : Nat) : Int) by simp, show textL (encS all) pre ++ 47 :: encS all s = (textL (encS all) pre ++ [47]) ++ encS all s by simp] at key
      have := back_l1 l q all hl s (by omega) (textL (encS all) pre ++ [47]) (by simp; omega) pre.length hp key s [] rfl
      simpa [encS] using this
end
theorem PathBack (l0 : List ByteArray) (a1 : ByteArray) (a2 : Bool) (_ : l0.length * Try.prog.bytesOf 9 ≤ 140737488351232 ∧ ∀ x ∈ l0, x.size ≤ 140737488351232) (s1 : a1.size ≤ 140737488351232) : ∃ k, crossroadlaw06_PathBack.f k l0 a1 a2 = some true := by
  obtain ⟨l, rfl⟩ := exBAs l0
  obtain ⟨q, rfl⟩ := exBA a1
  refine Ev.rounds (g := fun k => crossroadlaw06_PathBack.f k (l.map toBA) (toBA q) a2) ?_
  simp only [crossroadlaw06_PathBack.f, light_f, Option.bind_some, List.length_map]
  refine Ev.bind fit_f ?_
  simp only [if_true]
  have out : Ev (fun k => crossroadlaw06_PathBack.j0 k (l.map toBA) (toBA q) a2 true) true := by
    refine Ev.step' ?_
    simp only [crossroadlaw06_PathBack.j0, if_true]
    exact Ev.now true
  by_cases h0 : l = []
  · subst h0
    simp only [List.length_nil, Int.natCast_zero, if_true]
    exact out
  · have hp : 0 < l.length := List.length_pos_iff.2 h0
    simp only [if_neg (show ¬ (l.length : Int) = 0 by omega)]
    by_cases h12 : l.length > 12
    · simp only [if_pos (show (l.length : Int) > 12 by omega)]
      exact out
    · simp only [if_neg (show ¬ (l.length : Int) > 12 by omega)]
      by_cases hq : q.length ≤ 600
      · simp only [decide_eq_true hq, Bool.not_true]
        refine Ev.step' ?_
        have s0 : (⟨#[]⟩ : ByteArray) = toBA [] := rfl
        simp only [crossroadlaw06_PathBack.j0, Bool.false_eq_true, if_false, List.length_map, s0]
        exact back_l0 l q a2 h0 (by omega) hq l [] rfl (by simp)
      · simp only [decide_eq_false hq, Bool.not_false]
        exact out
end Go.Proofs.Ytnafapefbcmmbaa.Pure
