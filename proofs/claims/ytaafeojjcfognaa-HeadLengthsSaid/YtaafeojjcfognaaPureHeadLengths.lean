/- HeadLengths: lengths are digits up to what may be; beside chunks there is none. No condition. -/
import Derived.Test.YtaafeojjcfognaaXHeadFacts
import Derived.Test.YtaafeojjcfognaaX19
set_option linter.unusedVariables false
set_option linter.unusedSimpArgs false
namespace Go.Proofs.Ytaafeojjcfognaa.Pure
open Go.RowKit Go.Proofs.Ytaafeojjcfognaa.X Go.Proofs.YtaafeojjcfognaaW.PrintWords Go.Proofs.YtaafeojjcfognaaW.PrintLast Go.Proofs.Ytaafeojjcfognaa.M

def lPut : List UInt8 := [80, 85, 84, 32, 47, 32, 72, 84, 84, 80, 47, 49, 46, 49]
def lCod : List UInt8 := [116, 114, 97, 110, 115, 102, 101, 114, 45, 101, 110, 99, 111, 100, 105, 110, 103, 58, 32, 99, 104, 117, 110, 107, 101, 100]
theorem dig_nat : ∀ q : Fin 10, digN 10 (48 + q.val) = (q.val : Int) ∧ (UInt8.ofNat (48 + q.val)).toNat = 48 + q.val ∧ goodB (UInt8.ofNat (48 + q.val)) = true ∧ blankB (UInt8.ofNat (48 + q.val)) = false := by decide +kernel
/-- A digit as the loop writes it. -/
def digU (q : Nat) : UInt8 := UInt8.ofNat (48 + q)
theorem digU_f (q : Nat) (h : q < 10) : digB 10 (digU q) = (q : Int) ∧ (digU q).toNat = 48 + q ∧ goodB (digU q) = true ∧ blankB (digU q) = false := by
  obtain ⟨h1, h2, h3, h4⟩ := dig_nat ⟨q, h⟩
  refine ⟨?_, h2, h3, h4⟩
  rw [digB, digU, h2]
  exact h1
theorem trim_none (w : List UInt8) (h : ∀ x ∈ w, blankB x = false) : trimL (32 :: w) = w := by
  have e : trimL ([32] ++ w ++ []) = trimL w := trim_pad [32] w [] (by decide) rfl
  rw [List.append_nil] at e
  rw [show (32 : UInt8) :: w = [32] ++ w from rfl, e]
  refine trim_of_ends w ?_
  rcases snoc_cases w with rfl | ⟨i, d, hi⟩
  · exact .inl rfl
  · refine .inr ⟨?_, i, d, hi, h d (by rw [hi]; simp)⟩
    cases w with
    | nil => simp at hi
    | cons c r => exact ⟨c, r, rfl, h c (by simp)⟩
/-- What the header's lines come to. -/
theorem len_field (v : List UInt8) (h : ∀ x ∈ v, blankB x = false ∧ goodB x = true) : fieldL (sLen ++ 58 :: 32 :: v) = ((sLen, v), true) := by
  have ht := trim_none v (fun x hx => (h x hx).1)
  rw [field_of sLen (32 :: v) (by decide) (by decide +kernel) (by rw [ht]; simp only [valueL, List.all_eq_true]; exact fun x hx => (h x hx).2), ht]
  have : lowerL sLen = sLen := by decide +kernel
  rw [this]
section
variable (v : List UInt8) (n : Nat) (hv : ∀ x ∈ v, blankB x = false ∧ goodB x = true) (hn : numL 10 v = ((n : Int), true))
include hv
theorem len_chunks : parseL [lPut, lHost, sLen ++ 58 :: 32 :: v, lCod] = badL 400 := by
  have e : lPut = [80, 85, 84] ++ 32 :: ([47] ++ 32 :: sVer) := rfl
  rw [e, parse_plain _ _ _ [fHost, (sLen, v), (sCod, sChunk)] (by decide) (by decide) (by decide) (by simp) (by decide +kernel) (fieldsL_cons _ _ _ _ field_host (fieldsL_cons _ _ _ _ (len_field v hv) (by decide +kernel)))]
  rw [frameL, if_pos]
  refine badFrame_t _ (.inr (.inr ⟨?_, ?_⟩))
  · rw [allL_cons, if_neg (by decide), allL_cons, if_pos (show sLen = sLen from rfl)]; simp
  · rw [allL_cons, if_neg (by decide), allL_cons, if_neg (show ¬ sLen = sCod by decide), allL_cons, if_pos (show sCod = sCod from rfl)]; simp
include hn
theorem len_parse : parseL [lPut, lHost, sLen ++ 58 :: 32 :: v] = if (n : Int) > 600 then badL 413 else ⟨[80, 85, 84], [47], [fHost, (sLen, v)], false, n, 0⟩ := by
  have e : lPut = [80, 85, 84] ++ 32 :: ([47] ++ 32 :: sVer) := rfl
  rw [e, parse_plain _ _ _ [fHost, (sLen, v)] (by decide) (by decide) (by decide) (by simp) (by decide +kernel) (fieldsL_cons _ _ _ _ field_host (fieldsL_cons _ _ _ _ (len_field v hv) rfl))]
  have h1 : allL sHost [fHost, (sLen, v)] = [[97]] := by rw [allL_cons, if_pos (show fHost.1 = sHost from rfl), allL_cons, if_neg (show ¬ sLen = sHost by decide)]; rfl
  have h2 : allL sLen [fHost, (sLen, v)] = [v] := by rw [allL_cons, if_neg (by decide), allL_cons, if_pos (show sLen = sLen from rfl)]; rfl
  have h3 : allL sCod [fHost, (sLen, v)] = [] := by rw [allL_cons, if_neg (by decide), allL_cons, if_neg (show ¬ sLen = sCod by decide)]; rfl
  have h4 : allL sCon [fHost, (sLen, v)] = [] := by rw [allL_cons, if_neg (by decide), allL_cons, if_neg (show ¬ sLen = sCon by decide)]; rfl
  rw [frameL, badFrame_f _ (by rw [h1]; rfl) (by rw [h2]; simp) (by rw [h3]; simp), h2, h3, closeL, h4]
  simp only [pickG, notDone, hn, Bool.false_eq_true, if_false, if_true, List.any_nil]
end
theorem numGo_zeros (z : Nat) (d : List UInt8) : numGo 10 0 (List.replicate z 48 ++ d) = numGo 10 0 d := by
  induction z with
  | zero => rfl
  | succ z ih =>
    have h : digB 10 48 = 0 := by decide
    simp only [List.replicate_succ, List.cons_append, numGo, h]
    rw [if_neg (by omega), if_neg (by omega)]
    exact ih
theorem zeros_cut (z : Nat) (h : z ≤ 3) : (⟨#[48, 48, 48]⟩ : ByteArray).extract 0 ((z : Int)).toNat = toBA (List.replicate z 48) := by
  have e : (⟨#[48, 48, 48]⟩ : ByteArray) = toBA (List.replicate 3 48) := rfl
  rw [e, toBA_extract]
  congr 1
  simp only [Int.toNat_natCast, List.drop_zero, Nat.sub_zero, List.take_replicate]
  congr 1
  omega
theorem lengths_end (n z : Nat) (hn : n ≤ 65535) (hz : z ≤ 3) (ch : Bool) (d : List UInt8) (hd : d.length ≤ 70000) (h1 : numGo 10 0 d = some (n : Int)) (h2 : ∀ x ∈ d, blankB x = false ∧ goodB x = true) (h3 : d ≠ []) :
    Ev (fun k => crossroadlaw02_HeadLengths.l0 k (n : Int) (z : Int) ch (toBA d) 0) true := by
  have s1 : (⟨#[99, 111, 110, 116, 101, 110, 116, 45, 108, 101, 110, 103, 116, 104, 58, 32]⟩ : ByteArray) = toBA (sLen ++ [58, 32]) := rfl
  have s2 : (⟨#[80, 85, 84, 32, 47, 32, 72, 84, 84, 80, 47, 49, 46, 49]⟩ : ByteArray) = toBA lPut := rfl
  have s3 : (⟨#[104, 111, 115, 116, 58, 32, 97]⟩ : ByteArray) = toBA lHost := rfl
  have s4 : (⟨#[116, 114, 97, 110, 115, 102, 101, 114, 45, 101, 110, 99, 111, 100, 105, 110, 103, 58, 32, 99, 104, 117, 110, 107, 101, 100]⟩ : ByteArray) = toBA lCod := rfl
  have ls : (sLen ++ [58, 32]).length = 16 := rfl
  refine Ev.step' ?_
  simp only [crossroadlaw02_HeadLengths.l0, if_neg (show ¬ (0 : Int) > 0 by omega), toBA_toList, if_neg h3, if_pos (show (0 : Int) ≤ (z : Int) by omega), if_pos (show (z : Int) ≤ 3 by omega), zeros_cut z hz, s1, s2, s3, s4, toBA_size, toBA_append, List.length_append, ls, List.length_replicate, Option.bind_some, if_pos (show 16 + z ≤ 9223372036854775807 by omega), if_pos (show 16 + z + d.length ≤ 9223372036854775807 by omega)]
  have e : sLen ++ [58, 32] ++ List.replicate z 48 ++ d = sLen ++ 58 :: 32 :: (List.replicate z 48 ++ d) := by simp
  simp only [e]
  have hv : ∀ x ∈ List.replicate z 48 ++ d, blankB x = false ∧ goodB x = true := by
    intro x hx
    rcases List.mem_append.1 hx with hx | hx
    · rw [(List.mem_replicate.1 hx).2]; decide
    · exact h2 x hx
  have hnum : numL 10 (List.replicate z 48 ++ d) = ((n : Int), true) := by
    rw [numL, numGo_zeros, h1]
    cases d with
    | nil => exact absurd rfl h3
    | cons c r => simp
  have lv : (sLen ++ 58 :: 32 :: (List.replicate z 48 ++ d)).length ≤ 100000 := by simp [sLen]; omega
  cases ch with
  | true =>
    simp only [if_true, List.length_cons, List.length_nil, if_pos (show 0 + 1 + 1 + 1 < 8796093022208 by omega)]
    have p := parse_f [lPut, lHost, sLen ++ 58 :: 32 :: (List.replicate z 48 ++ d), lCod] (by simp) (by
      intro l hl
      simp only [List.mem_cons, List.not_mem_nil, or_false] at hl
      rcases hl with rfl | rfl | rfl | rfl
      · decide
      · decide
      · exact lv
      · decide)
    refine Ev.bind p ?_
    rw [len_chunks _ hv]
    exact Ev.now true
  | false =>
    simp only [Bool.false_eq_true, if_false]
    have p := parse_f [lPut, lHost, sLen ++ 58 :: 32 :: (List.replicate z 48 ++ d)] (by simp) (by
      intro l hl
      simp only [List.mem_cons, List.not_mem_nil, or_false] at hl
      rcases hl with rfl | rfl | rfl
      · decide
      · decide
      · exact lv)
    refine Ev.bind p ?_
    rw [len_parse _ n hv hnum]
    by_cases h6 : (n : Int) > 600
    · simp only [if_pos h6]
      exact Ev.now true
    · simp only [if_neg h6, hT, if_true]
      exact Ev.const (by simp)
theorem lengths_l0 (n z : Nat) (hn : n ≤ 65535) (hz : z ≤ 3) (ch : Bool) (N : Nat) : ∀ (x : Nat) (d : List UInt8), x ≤ N → x + d.length ≤ 65536 → numGo 10 (x : Int) d = some (n : Int) → (∀ c ∈ d, blankB c = false ∧ goodB c = true) → (x = 0 → d = [] → N ≥ 1) → x ≤ n →
    Ev (fun k => crossroadlaw02_HeadLengths.l0 k (n : Int) (z : Int) ch (toBA d) (x : Int)) true := by
  have s0 (x : Nat) (hx : x ≤ 65535) (d : List UInt8) (h1 : numGo 10 (x : Int) d = some (n : Int)) (h2 : ∀ c ∈ d, blankB c = false ∧ goodB c = true) :
      (wrap64 (48 + Int.tmod (x : Int) 10)) % 256 = ((digU (x % 10)).toNat : Int) ∧ wrap64 (Int.tdiv (x : Int) 10) = ((x / 10 : Nat) : Int) ∧ numGo 10 ((x / 10 : Nat) : Int) (digU (x % 10) :: d) = some (n : Int) ∧ ∀ c ∈ digU (x % 10) :: d, blankB c = false ∧ goodB c = true := by
    obtain ⟨g1, g2, g3, g4⟩ := digU_f (x % 10) (by omega)
    have t1 : Int.tmod (x : Int) 10 = ((x % 10 : Nat) : Int) := by rw [Int.tmod_eq_emod_of_nonneg (by omega)]; omega
    have t2 : Int.tdiv (x : Int) 10 = ((x / 10 : Nat) : Int) := by rw [Int.tdiv_eq_ediv_of_nonneg (by omega)]; omega
    refine ⟨?_, ?_, ?_, ?_⟩
    · rw [t1, w64 (by omega) (by omega), g2]; omega
    · rw [t2, w64 (by omega) (by omega)]
    · simp only [numGo, g1]
      rw [if_neg (by omega), if_neg (by omega), show ((x / 10 : Nat) : Int) * 10 + ((x % 10 : Nat) : Int) = (x : Int) by omega]
      exact h1
    · intro c hc
      rcases List.mem_cons.1 hc with rfl | hc
      · exact ⟨g4, g3⟩
      · exact h2 c hc
  have one (b : UInt8) (d : List UInt8) : strOfNums [(b.toNat : Int)] ++ toBA d = toBA (b :: d) := by rw [strOfNums_one, toBA_append]; rfl
  have oneS (b : UInt8) : (strOfNums [(b.toNat : Int)]).size = 1 := by rw [strOfNums_one]; rfl
  induction N with
  | zero =>
    intro x d hx hl h1 h2 h3 hxn
    obtain rfl : x = 0 := by omega
    have hd : d ≠ [] := fun h => by have := h3 rfl h; omega
    exact lengths_end n z hn hz ch d (by omega) h1 h2 hd
  | succ N ih =>
    intro x d hx hl h1 h2 h3 hxn
    by_cases h0 : x = 0
    · subst h0
      by_cases hd : d = []
      · subst hd
        obtain ⟨e1, e2, e3, e4⟩ := s0 0 (by omega) [] h1 h2
        have e1' : (wrap64 (48 + Int.tmod 0 10)) % 256 = ((digU (0 % 10)).toNat : Int) := e1
        have e2' : wrap64 (Int.tdiv 0 10) = 0 := e2
        refine Ev.step' ?_
        simp only [crossroadlaw02_HeadLengths.l0, Int.natCast_zero, if_neg (show ¬ (0 : Int) > 0 by omega), toBA_toList, if_true, e1', e2', Option.bind_some, oneS, toBA_size, one, List.length_nil, if_pos (show 1 + 0 ≤ 9223372036854775807 by omega)]
        exact lengths_end n z hn hz ch _ (by simp) e3 e4 (by simp)
      · exact lengths_end n z hn hz ch d (by omega) h1 h2 hd
    · obtain ⟨e1, e2, e3, e4⟩ := s0 x (by omega) d h1 h2
      refine Ev.step' ?_
      simp only [crossroadlaw02_HeadLengths.l0, if_pos (show (x : Int) > 0 by omega), e1, e2, Option.bind_some, oneS, toBA_size, one, if_pos (show 1 + d.length ≤ 9223372036854775807 by omega)]
      exact ih (x / 10) (digU (x % 10) :: d) (by omega) (by simp only [List.length_cons]; omega) e3 e4 (fun _ h => by cases h) (by omega)
theorem HeadLengths : crossroadlaw02_HeadLengths.Pure := by
  intro a0 a1 a2 _ _
  refine Ev.rounds (g := fun k => crossroadlaw02_HeadLengths.f k a0 a1 a2) ?_
  simp only [crossroadlaw02_HeadLengths.f, i64_and3, i64_and65535]
  refine Ev.bind fit_f ?_
  simp only [if_true]
  obtain ⟨n, hn⟩ : ∃ n : Nat, (n : Int) = a0 % 65536 := ⟨(a0 % 65536).toNat, by omega⟩
  obtain ⟨m, hm⟩ : ∃ m : Nat, (m : Int) = a1 % 4 := ⟨(a1 % 4).toNat, by omega⟩
  have := lengths_l0 n m (by omega) (by omega) a2 (n + 1) n [] (by omega) (by simp; omega) rfl (by simp) (fun _ _ => by omega) (Nat.le_refl n)
  rw [← hn, ← hm]
  exact this
end Go.Proofs.Ytaafeojjcfognaa.Pure
