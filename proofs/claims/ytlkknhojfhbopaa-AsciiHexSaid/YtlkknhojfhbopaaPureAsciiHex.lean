/- AsciiHex: numbers told in base 10 and in base 16, with noughts ahead, are read back; small digits as well. No condition. -/
import Derived.Test.YtlkknhojfhbopaaXFit01
import Derived.Test.YtlkknhojfhbopaaXLowerFacts
import Derived.Test.YtlkknhojfhbopaaXBits
import Derived.Test.YtlkknhojfhbopaaX12
set_option linter.unusedVariables false
set_option linter.unusedSimpArgs false
namespace Go.Proofs.Ytlkknhojfhbopaa.Pure
open Go.RowKit Go.Proofs.Ytlkknhojfhbopaa.X Go.Proofs.YtlkknhojfhbopaaW.PrintWords Go.Proofs.YtlkknhojfhbopaaW.PrintLast Go.Proofs.Ytlkknhojfhbopaa.M

/-- d reads as v, and has so many digits that p is b to their number. -/
def Reads (b : Int) (d : List UInt8) (v p : Int) : Prop := 0 ≤ v ∧ 1 ≤ p ∧ ∀ x : Int, 0 ≤ x → x * p + v ≤ 1073741824 → numGo b x d = some (x * p + v)
theorem Reads.nil (b : Int) : Reads b [] 0 1 := ⟨by omega, by omega, fun x _ _ => by simp [numGo]⟩
theorem Reads.cons {b : Int} (hb : b = 10 ∨ b = 16) {d : List UInt8} {v p : Int} (h : Reads b d v p) (c : UInt8) (q : Int) (hq : digB b c = q) (h0 : 0 ≤ q) : Reads b (c :: d) (q * p + v) (b * p) := by
  obtain ⟨hv, hp, hr⟩ := h
  have hqp : 0 ≤ q * p := Int.mul_nonneg h0 (by omega)
  refine ⟨by omega, by rcases hb with rfl | rfl <;> omega, fun x hx hle => ?_⟩
  have e : x * (b * p) + (q * p + v) = (x * b + q) * p + v := by rw [Int.add_mul, Int.mul_assoc]; omega
  have hxb : 0 ≤ x * b := by rcases hb with rfl | rfl <;> omega
  have hge : x * b + q ≤ (x * b + q) * p := by
    have := Int.mul_le_mul_of_nonneg_left (c := x * b + q) (show (1 : Int) ≤ p from hp) (by omega)
    simpa using this
  rw [e] at hle ⊢
  simp only [numGo, hq, if_neg (show ¬ q < 0 by omega), if_neg (show ¬ x * b + q > 1073741824 by omega)]
  exact hr _ (by omega) hle
theorem Reads.num {b : Int} {d : List UInt8} {n p : Int} (h : Reads b d n p) (hn : n ≤ 1073741824) (hd : d ≠ []) : numL b d = (n, true) := by
  have := h.2.2 0 (by omega) (by omega)
  rw [numL, this]
  cases d with
  | nil => exact absurd rfl hd
  | cons => simp
theorem Reads.zeros {b : Int} (hb : b = 10 ∨ b = 16) {d : List UInt8} {v p : Int} (h : Reads b d v p) (m : Nat) : ∃ p', Reads b (List.replicate m 48 ++ d) v p' := by
  induction m with
  | zero => exact ⟨p, h⟩
  | succ m ih =>
    obtain ⟨p', h'⟩ := ih
    have := h'.cons hb 48 0 (by rcases hb with rfl | rfl <;> decide) (by omega)
    rw [Int.zero_mul, Int.zero_add] at this
    exact ⟨_, this⟩
def hexL : List UInt8 := [48, 49, 50, 51, 52, 53, 54, 55, 56, 57, 65, 66, 67, 68, 69, 70]
theorem hex_cut (q : Nat) (h : q < 16) : (⟨#[48, 49, 50, 51, 52, 53, 54, 55, 56, 57, 65, 66, 67, 68, 69, 70]⟩ : ByteArray).extract q (q + 1) = toBA [hexL.getD q 0] := by
  rw [show (⟨#[48, 49, 50, 51, 52, 53, 54, 55, 56, 57, 65, 66, 67, 68, 69, 70]⟩ : ByteArray) = toBA hexL from rfl, toBA_extract]
  congr 1
  have : ∀ q : Fin 16, (hexL.drop q.val).take (q.val + 1 - q.val) = [hexL.getD q.val 0] := by decide
  exact this ⟨q, h⟩
theorem hex_dig (q : Nat) (h : q < 16) : digB 16 (hexL.getD q 0) = (q : Int) := by
  have : ∀ q : Fin 16, digB 16 (hexL.getD q.val 0) = (q.val : Int) := by decide
  exact this ⟨q, h⟩
theorem dec_dig (q : Nat) (h : q < 10) : digB 10 (UInt8.ofNat (48 + q)) = (q : Int) ∧ ((UInt8.ofNat (48 + q)).toNat : Int) = 48 + (q : Int) := by
  have : ∀ q : Fin 10, digB 10 (UInt8.ofNat (48 + q.val)) = (q.val : Int) ∧ ((UInt8.ofNat (48 + q.val)).toNat : Int) = 48 + (q.val : Int) := by decide
  exact this ⟨q, h⟩
/-- The end: all three are read. -/
theorem ah_end (n z : Int) (hn : 0 ≤ n ∧ n < 1073741824) (hz : 0 ≤ z ∧ z ≤ 7) (d h : List UInt8) (hd : d ≠ []) (hh : h ≠ []) (ld : d.length ≤ 100) (lh : h.length ≤ 100) (p p' : Int) (rd_ : Reads 10 d n p) (rh : Reads 16 h n p') :
    Ev (fun k => crossroadlaw01_AsciiHex.l1 k n z (toBA d) (toBA h) 0) true := by
  have ez : (⟨#[48, 48, 48, 48, 48, 48, 48]⟩ : ByteArray).extract 0 z.toNat = toBA (List.replicate z.toNat 48) := by
    rw [show (⟨#[48, 48, 48, 48, 48, 48, 48]⟩ : ByteArray) = toBA (List.replicate 7 48) from rfl, toBA_extract]
    congr 1
    rw [List.drop_zero, Nat.sub_zero, List.take_replicate, Nat.min_eq_left (by omega)]
  have lz : (List.replicate z.toNat (48 : UInt8)).length ≤ 7 := by simp; omega
  obtain ⟨q, r1⟩ := rd_.zeros (.inl rfl) z.toNat
  obtain ⟨q', r2⟩ := rh.zeros (.inr rfl) z.toNat
  have n1 := r1.num (by omega) (by simp [hd])
  have n2 := r2.num (by omega) (by simp [hh])
  have n3 : numL 16 (lowerL h) = (n, true) := by
    have := rh.num (by omega) hh
    rw [numL, numGo_lower] at *
    rw [show (lowerL h).isEmpty = h.isEmpty by simp [lowerL]]
    exact this
  refine Ev.step' ?_
  simp only [crossroadlaw01_AsciiHex.l1, if_neg (show ¬ (0 : Int) > 0 by omega), toBA_toList, if_neg hh, if_pos hz.1, if_pos hz.2, ez, toBA_size, if_pos (show (List.replicate z.toNat (48 : UInt8)).length + d.length ≤ 9223372036854775807 by omega), if_pos (show (List.replicate z.toNat (48 : UInt8)).length + h.length ≤ 9223372036854775807 by omega), toBA_append]
  refine Ev.bind (number_f 10 (.inl rfl) _ (by rw [List.length_append]; omega)) ?_
  refine Ev.bind (number_f 16 (.inr rfl) _ (by rw [List.length_append]; omega)) ?_
  simp only [lower_f h (by omega), Option.bind_some]
  refine Ev.bind (number_f 16 (.inr rfl) _ (by rw [lowerL_length]; omega)) ?_
  simp only [n1, n2, n3, if_true]
  exact Ev.const (by simp)
theorem ah_l1 (n z : Int) (hn : 0 ≤ n ∧ n < 1073741824) (hz : 0 ≤ z ∧ z ≤ 7) (d : List UInt8) (hd : d ≠ []) (ld : d.length ≤ 100) (p : Int) (rd_ : Reads 10 d n p) (N : Nat) : ∀ (k : Int) (h : List UInt8) (v p' : Int), 0 ≤ k → k < 2 ^ N → h.length + N ≤ 40 → Reads 16 h v p' → n = k * p' + v →
    Ev (fun r => crossroadlaw01_AsciiHex.l1 r n z (toBA d) (toBA h) k) true := by
  induction N with
  | zero =>
    intro k h v p' h0 hlt hlen hr hnv
    obtain rfl : k = 0 := by omega
    rw [Int.zero_mul, Int.zero_add] at hnv
    subst hnv
    by_cases hh : h = []
    · subst hh
      have e : (⟨#[48, 49, 50, 51, 52, 53, 54, 55, 56, 57, 65, 66, 67, 68, 69, 70]⟩ : ByteArray).extract ((Int.tmod 0 16) : Int).toNat ((wrap64 ((Int.tmod 0 16) + 1)) : Int).toNat = toBA [48] := by
        rw [show Int.tmod 0 16 = 0 from rfl, show wrap64 (0 + 1) = 1 from by decide +kernel]; exact hex_cut 0 (by omega)
      have c1 : (0 : Int) ≤ Int.tmod 0 16 := by decide +kernel
      have c2 : (Int.tmod 0 16) ≤ (wrap64 ((Int.tmod 0 16) + 1)) := by decide +kernel
      have c3 : (wrap64 ((Int.tmod 0 16) + 1)) ≤ 16 := by decide +kernel
      have c4 : wrap64 (Int.tdiv 0 16) = 0 := by decide +kernel
      refine Ev.step' ?_
      simp only [crossroadlaw01_AsciiHex.l1, if_neg (show ¬ (0 : Int) > 0 by omega), toBA_toList, if_true, e, if_pos c1, if_pos c2, if_pos c3, c4, toBA_size, toBA_append]
      have s : ([48] : List UInt8).length + ([] : List UInt8).length ≤ 9223372036854775807 := by decide
      simp only [if_pos s]
      have h' := hr.cons (.inr rfl) 48 0 (by decide) (by omega)
      rw [Int.zero_mul, Int.zero_add] at h'
      exact ah_end n z hn hz d [48] hd (by simp) ld (by simp) p _ rd_ h'
    · exact ah_end n z hn hz d h hd hh ld (by omega) p p' rd_ hr
  | succ N ih =>
    intro k h v p' h0 hlt hlen hr hnv
    by_cases hk : k > 0
    · have t1 : Int.tmod k 16 = k % 16 := Int.tmod_eq_emod_of_nonneg h0
      have t2 : Int.tdiv k 16 = k / 16 := Int.tdiv_eq_ediv_of_nonneg h0
      have hkb : k ≤ n := by
        have := Int.mul_le_mul_of_nonneg_left (c := k) hr.2.1 h0
        have := hr.1
        omega
      obtain ⟨q, hq⟩ : ∃ q : Nat, k % 16 = (q : Int) := ⟨(k % 16).toNat, by omega⟩
      have hq16 : q < 16 := by omega
      have w1 : wrap64 (k % 16 + 1) = k % 16 + 1 := w64 (by omega) (by omega)
      have w2 : wrap64 (k / 16) = k / 16 := w64 (by omega) (by omega)
      have e : (⟨#[48, 49, 50, 51, 52, 53, 54, 55, 56, 57, 65, 66, 67, 68, 69, 70]⟩ : ByteArray).extract (k % 16).toNat (k % 16 + 1).toNat = toBA [hexL.getD q 0] := by
        rw [hq, show ((q : Int) + 1).toNat = q + 1 by omega, Int.toNat_natCast]; exact hex_cut q hq16
      have hlt2 : k < 2 * 2 ^ N := by rw [Int.pow_succ] at hlt; omega
      refine Ev.step' ?_
      simp only [crossroadlaw01_AsciiHex.l1, if_pos hk, t1, t2, w1, w2, e, if_pos (show (0 : Int) ≤ k % 16 by omega), if_pos (show k % 16 ≤ k % 16 + 1 by omega), if_pos (show k % 16 + 1 ≤ 16 by omega), toBA_size, toBA_append]
      have s : [hexL.getD q 0].length + h.length ≤ 9223372036854775807 := by rw [List.length_singleton]; omega
      simp only [if_pos s]
      have h' := hr.cons (.inr rfl) (hexL.getD q 0) (q : Int) (hex_dig q hq16) (by omega)
      refine ih (k / 16) ([hexL.getD q 0] ++ h) _ _ (by omega) (by omega) (by simp; omega) h' ?_
      rw [hnv, ← hq]
      have hd : k * p' = (k / 16) * (16 * p') + k % 16 * p' := by
        rw [← Int.mul_assoc, ← Int.add_mul]
        congr 1
        omega
      omega
    · obtain rfl : k = 0 := by omega
      exact ih 0 h v p' (by omega) (by have := Int.pow_pos (n := 2) (m := N) (by omega); omega) (by omega) hr hnv
theorem ah_l0 (n z : Int) (hn : 0 ≤ n ∧ n < 1073741824) (hz : 0 ≤ z ∧ z ≤ 7) (N : Nat) : ∀ (k : Int) (d : List UInt8) (v p : Int), 0 ≤ k → k < 2 ^ N → d.length + N ≤ 40 → Reads 10 d v p → n = k * p + v →
    Ev (fun r => crossroadlaw01_AsciiHex.l0 r n z (toBA d) (toBA []) k) true := by
  have on : ∀ (d : List UInt8) (p : Int), d ≠ [] → d.length ≤ 40 → Reads 10 d n p → Ev (fun r => crossroadlaw01_AsciiHex.l1 r n z (toBA d) (toBA []) n) true := by
    intro d p hd hl hr
    exact ah_l1 n z hn hz d hd (by omega) p hr 30 n [] 0 1 hn.1 (by omega) (by simp) (Reads.nil 16) (by omega)
  induction N with
  | zero =>
    intro k d v p h0 hlt hlen hr hnv
    obtain rfl : k = 0 := by omega
    rw [Int.zero_mul, Int.zero_add] at hnv
    subst hnv
    by_cases hd : d = []
    · subst hd
      have e1 : strOfNums [(wrap64 (48 + (Int.tmod 0 10))) % 256] = toBA [48] := by decide +kernel
      have c4 : wrap64 (Int.tdiv 0 10) = 0 := by decide +kernel
      have s : ([48] : List UInt8).length + ([] : List UInt8).length ≤ 9223372036854775807 := by decide
      refine Ev.step' ?_
      simp only [crossroadlaw01_AsciiHex.l0, if_neg (show ¬ (0 : Int) > 0 by omega), toBA_toList, if_true, Option.bind_some, e1, c4, toBA_size, toBA_append, if_pos s]
      have h' := hr.cons (.inl rfl) 48 0 (by decide) (by omega)
      rw [Int.zero_mul, Int.zero_add] at h'
      refine Ev.step' ?_
      have ne : ¬ ([48] ++ [] : List UInt8) = [] := by simp
      simp only [crossroadlaw01_AsciiHex.l0, if_neg (show ¬ (0 : Int) > 0 by omega), toBA_toList, if_neg ne]
      exact on [48] _ (by simp) (by simp) h'
    · refine Ev.step' ?_
      simp only [crossroadlaw01_AsciiHex.l0, if_neg (show ¬ (0 : Int) > 0 by omega), toBA_toList, if_neg hd]
      exact on d p hd (by omega) hr
  | succ N ih =>
    intro k d v p h0 hlt hlen hr hnv
    by_cases hk : k > 0
    · have t1 : Int.tmod k 10 = k % 10 := Int.tmod_eq_emod_of_nonneg h0
      have t2 : Int.tdiv k 10 = k / 10 := Int.tdiv_eq_ediv_of_nonneg h0
      have hkb : k ≤ n := by
        have := Int.mul_le_mul_of_nonneg_left (c := k) hr.2.1 h0
        have := hr.1
        omega
      obtain ⟨q, hq⟩ : ∃ q : Nat, k % 10 = (q : Int) := ⟨(k % 10).toNat, by omega⟩
      have hq10 : q < 10 := by omega
      obtain ⟨d1, d2⟩ := dec_dig q hq10
      have w1 : (wrap64 (48 + k % 10)) % 256 = ((UInt8.ofNat (48 + q)).toNat : Int) := by rw [w64 (by omega) (by omega), d2]; omega
      have w2 : wrap64 (k / 10) = k / 10 := w64 (by omega) (by omega)
      have hlt2 : k < 2 * 2 ^ N := by rw [Int.pow_succ] at hlt; omega
      have s : [UInt8.ofNat (48 + q)].length + d.length ≤ 9223372036854775807 := by rw [List.length_singleton]; omega
      refine Ev.step' ?_
      simp only [crossroadlaw01_AsciiHex.l0, if_pos hk, t1, t2, w1, w2, Option.bind_some, strOfNums_one, toBA_size, toBA_append, if_pos s]
      have h' := hr.cons (.inl rfl) (UInt8.ofNat (48 + q)) (q : Int) d1 (by omega)
      refine ih (k / 10) ([UInt8.ofNat (48 + q)] ++ d) _ _ (by omega) (by omega) (by simp; omega) h' ?_
      rw [hnv, ← hq]
      have hd : k * p = (k / 10) * (10 * p) + k % 10 * p := by
        rw [← Int.mul_assoc, ← Int.add_mul]
        congr 1
        omega
      omega
    · obtain rfl : k = 0 := by omega
      exact ih 0 d v p (by omega) (by have := Int.pow_pos (n := 2) (m := N) (by omega); omega) (by omega) hr hnv
theorem AsciiHex : crossroadlaw01_AsciiHex.Pure := by
  intro a b ha hb
  refine Ev.rounds (Ev.bind fit_f ?_)
  simp only [if_true]
  have ea : bits .and .i64 a 1073741823 = a % 1073741824 := i64_and1073741823 a
  have eb : bits .and .i64 b 7 = b % 8 := i64_and7 b
  rw [ea, eb]
  exact ah_l0 (a % 1073741824) (b % 8) (by omega) (by omega) 30 (a % 1073741824) [] 0 1 (by omega) (by omega) (by simp) (Reads.nil 10) (by omega)
end Go.Proofs.Ytlkknhojfhbopaa.Pure
