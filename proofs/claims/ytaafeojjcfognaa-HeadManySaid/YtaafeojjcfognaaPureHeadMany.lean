/- HeadMany: as many fields, and as long a first line, as may be are taken, and no more. No condition. -/
import Derived.Test.YtaafeojjcfognaaXHeadFacts
import Derived.Test.YtaafeojjcfognaaX17
set_option linter.unusedVariables false
set_option linter.unusedSimpArgs false
namespace Go.Proofs.Ytaafeojjcfognaa.Pure
open Go.RowKit Go.Proofs.Ytaafeojjcfognaa.X Go.Proofs.YtaafeojjcfognaaW.PrintWords Go.Proofs.YtaafeojjcfognaaW.PrintLast Go.Proofs.Ytaafeojjcfognaa.M

def gGet : List UInt8 := [71, 69, 84]
def slashX (m : Nat) : List UInt8 := 47 :: List.replicate m 120
def fLine : List UInt8 := [102, 58, 32, 118]
def firstLine (m : Nat) : List UInt8 := gGet ++ 32 :: (slashX m ++ 32 :: sVer)
theorem first_len (m : Nat) : (firstLine m).length = m + 14 := by simp [firstLine, gGet, slashX, sVer]
theorem many_parse (m n : Nat) : parseL (firstLine m :: lHost :: List.replicate n fLine) = if m + 14 > 200 ∨ n + 1 > 16 then badL 431 else ⟨gGet, slashX m, fHost :: List.replicate n ([102], [118]), false, 0, 0⟩ := by
  by_cases h : m + 14 > 200 ∨ n + 1 > 16
  · rw [if_pos h, parseL, if_pos (by rw [first_len]; simpa using h)]
  · rw [if_neg h]
    have hx : ∀ x ∈ slashX m, x.toNat = 47 ∨ x.toNat = 120 := by
      intro x hx
      rcases List.mem_cons.1 hx with rfl | hx
      · exact .inl rfl
      · rw [(List.mem_replicate.1 hx).2]; exact .inr rfl
    have hv : valueL (slashX m) = true := by
      simp only [valueL, List.all_eq_true]
      intro x hx
      rcases List.mem_cons.1 hx with rfl | hx
      · decide
      · rw [(List.mem_replicate.1 hx).2]; decide
    have hfs : fieldsL (lHost :: List.replicate n fLine) = some (fHost :: List.replicate n ([102], [118])) := by
      refine fieldsL_cons _ _ _ _ field_host ?_
      have := fieldsL_map (fun _ : Nat => fLine) (fun _ => ([102], [118])) (List.range n) (fun _ _ => by decide +kernel)
      simpa [List.map_const'] using this
    rw [firstLine, parse_plain gGet (slashX m) _ _ (by decide) (fun x h => by have := hx x h; omega) (by simp [gGet, slashX]; omega) (by simp; omega) (by rw [firstL, hv]; rfl) hfs]
    have no (name : List UInt8) (h : ([102] : List UInt8) ≠ name) : allL name (List.replicate n (([102], [118]) : FldM)) = [] := allL_no _ _ (fun f hf => by rw [(List.mem_replicate.1 hf).2]; exact h)
    rw [frame_plain _ _ _ (by rw [allL_cons, if_pos (show fHost.1 = sHost from rfl), no _ (by decide)]; rfl) (by rw [allL_cons, if_neg (by decide), no _ (by decide)]) (by rw [allL_cons, if_neg (by decide), no _ (by decide)])]
    rw [closeL, allL_cons, if_neg (by decide), no _ (by decide)]
    rfl
theorem many_j2 (n : Nat) (m : Nat) (hn : n ≤ 31) : Ev (fun k => (fun h : HT => if (wrap64 ((n : Int) + 1)) > 16 then crossroadlaw02_HeadMany.j2 k (n : Int) true h.1 h.2.1 h.2.2.1 h.2.2.2.1 h.2.2.2.2.1 h.2.2.2.2.2.1 h.2.2.2.2.2.2 else crossroadlaw02_HeadMany.j2 k (n : Int) (decide (((firstLine m).length : Int) > 200)) h.1 h.2.1 h.2.2.1 h.2.2.2.1 h.2.2.2.2.1 h.2.2.2.2.2.1 h.2.2.2.2.2.2) (hT (parseL (firstLine m :: lHost :: List.replicate n fLine)))) true := by
  have hw : wrap64 ((n : Int) + 1) = (n : Int) + 1 := w64 (by omega) (by omega)
  have yes : m + 14 > 200 ∨ n + 1 > 16 → ∀ k, crossroadlaw02_HeadMany.j2 (k + 1) (n : Int) true (hT (badL 431)).1 (hT (badL 431)).2.1 (hT (badL 431)).2.2.1 (hT (badL 431)).2.2.2.1 (hT (badL 431)).2.2.2.2.1 (hT (badL 431)).2.2.2.2.2.1 (hT (badL 431)).2.2.2.2.2.2 = some true := fun _ k => by
    simp only [crossroadlaw02_HeadMany.j2, if_true]; rfl
  rw [many_parse]
  refine Ev.step' ?_
  by_cases h1 : n + 1 > 16
  · simp only [hw, if_pos (show (n : Int) + 1 > 16 by omega), if_pos (show m + 14 > 200 ∨ n + 1 > 16 from .inr h1), yes (.inr h1)]
    exact Ev.now true
  · simp only [hw, if_neg (show ¬ (n : Int) + 1 > 16 by omega), first_len]
    by_cases h2 : m + 14 > 200
    · simp only [decide_eq_true (show ((m + 14 : Nat) : Int) > 200 by omega), if_pos (show m + 14 > 200 ∨ n + 1 > 16 from .inl h2), yes (.inl h2)]
      exact Ev.now true
    · simp only [decide_eq_false (show ¬ ((m + 14 : Nat) : Int) > 200 by omega), if_neg (show ¬ (m + 14 > 200 ∨ n + 1 > 16) by omega)]
      simp only [crossroadlaw02_HeadMany.j2, Bool.false_eq_true, if_false, hT, hw]
      have p := parse_f [] (by simp) (by simp)
      simp only [List.length_map, List.length_cons, List.length_replicate, if_true, if_pos (show ((n + 1 : Nat) : Int) = (n : Int) + 1 by omega)]
      refine Ev.bind p ?_
      have e : hT (parseL []) = hT (badL 400) := rfl
      have e2 : ((hT (badL 400)).2.2.1.length : Int) = 0 := rfl
      simp only [e, if_pos e2]
      refine Ev.bind p ?_
      exact Ev.now true
theorem many_l1 (m n : Nat) (hm : m ≤ 511) (hn : n ≤ 31) (r : Nat) : ∀ i, i + r = n →
    Ev (fun k => crossroadlaw02_HeadMany.l1 k (n : Int) ((firstLine m :: lHost :: List.replicate i fLine).map toBA) (n : Int) (i : Int)) true := by
  induction r with
  | zero =>
    intro i hi
    obtain rfl : i = n := by omega
    refine Ev.step' ?_
    simp only [crossroadlaw02_HeadMany.l1, if_neg (show ¬ (i : Int) < (i : Int) by omega)]
    refine Ev.bind (parse_f _ (by simp; omega) (by
      intro l hl
      simp only [List.mem_cons, List.mem_replicate] at hl
      rcases hl with rfl | rfl | ⟨_, rfl⟩
      · rw [first_len]; omega
      · decide
      · decide)) ?_
    have := many_j2 i m hn
    have e0 : rdOf ByteArray.empty ((firstLine m :: lHost :: List.replicate i fLine).map toBA) 0 = toBA (firstLine m) := rfl
    simp only [e0, toBA_size, List.length_map, if_pos (show (0 : Int) < ((firstLine m :: lHost :: List.replicate i fLine).length : Int) by simp only [List.length_cons]; omega)]
    exact this
  | succ r ih =>
    intro i hi
    have hw : wrap64 ((i : Int) + 1) = ((i + 1 : Nat) : Int) := by rw [w64 (by omega) (by omega)]; omega
    refine Ev.step' ?_
    simp only [crossroadlaw02_HeadMany.l1, if_pos (show (i : Int) < (n : Int) by omega), hw, if_pos (show ((firstLine m :: lHost :: List.replicate i fLine).map toBA).length < 8796093022208 by simp; omega)]
    have := ih (i + 1) (by omega)
    simpa [List.replicate_succ', fLine, toBA] using this
theorem many_l0 (m n : Nat) (hm : m ≤ 511) (hn : n ≤ 31) (r : Nat) : ∀ i, i + r = m →
    Ev (fun k => crossroadlaw02_HeadMany.l0 k (n : Int) [toBA (gGet ++ 32 :: slashX i), toBA lHost] (m : Int) (i : Int)) true := by
  induction r with
  | zero =>
    intro i hi
    obtain rfl : i = m := by omega
    refine Ev.step' ?_
    have e0 : rdOf ByteArray.empty [toBA (gGet ++ 32 :: slashX i), toBA lHost] 0 = toBA (gGet ++ 32 :: slashX i) := rfl
    simp only [crossroadlaw02_HeadMany.l0, if_neg (show ¬ (i : Int) < (i : Int) by omega), List.length_cons, List.length_nil, if_pos (show (0 : Int) < ((0 + 1 + 1 : Nat) : Int) by omega), e0, toBA_size, if_pos (show (gGet ++ 32 :: slashX i).length + 9 ≤ 9223372036854775807 by simp [gGet, slashX]; omega)]
    have := many_l1 i n hm hn n 0 (by omega)
    have e1 : toBA (gGet ++ 32 :: slashX i) ++ (⟨#[32, 72, 84, 84, 80, 47, 49, 46, 49]⟩ : ByteArray) = toBA (firstLine i) := by
      rw [show (⟨#[32, 72, 84, 84, 80, 47, 49, 46, 49]⟩ : ByteArray) = toBA (32 :: sVer) from rfl, toBA_append]
      congr 1
    simp only [List.set, Int.toNat_zero, e1]
    exact this
  | succ r ih =>
    intro i hi
    have hw : wrap64 ((i : Int) + 1) = ((i + 1 : Nat) : Int) := by rw [w64 (by omega) (by omega)]; omega
    have e0 : rdOf ByteArray.empty [toBA (gGet ++ 32 :: slashX i), toBA lHost] 0 = toBA (gGet ++ 32 :: slashX i) := rfl
    refine Ev.step' ?_
    simp only [crossroadlaw02_HeadMany.l0, if_pos (show (i : Int) < (m : Int) by omega), List.length_cons, List.length_nil, if_pos (show (0 : Int) < ((0 + 1 + 1 : Nat) : Int) by omega), e0, toBA_size, hw, if_pos (show (gGet ++ 32 :: slashX i).length + 1 ≤ 9223372036854775807 by simp [gGet, slashX]; omega)]
    have e1 : toBA (gGet ++ 32 :: slashX i) ++ (⟨#[120]⟩ : ByteArray) = toBA (gGet ++ 32 :: slashX (i + 1)) := by
      rw [show (⟨#[120]⟩ : ByteArray) = toBA [120] from rfl, toBA_append]
      congr 1
      simp [slashX, List.replicate_succ']
    simp only [List.set, Int.toNat_zero, e1]
    exact ih (i + 1) (by omega)
theorem HeadMany : crossroadlaw02_HeadMany.Pure := by
  intro a0 a1 _ _
  refine Ev.rounds (g := fun k => crossroadlaw02_HeadMany.f k a0 a1) ?_
  simp only [crossroadlaw02_HeadMany.f, i64_and31, i64_and511]
  refine Ev.bind fit_f ?_
  simp only [if_true]
  obtain ⟨n, hn⟩ : ∃ n : Nat, (n : Int) = a0 % 32 := ⟨(a0 % 32).toNat, by omega⟩
  obtain ⟨m, hm⟩ : ∃ m : Nat, (m : Int) = a1 % 512 := ⟨(a1 % 512).toNat, by omega⟩
  have := many_l0 m n (by omega) (by omega) m 0 (by omega)
  rw [← hn, ← hm]
  exact this
end Go.Proofs.Ytaafeojjcfognaa.Pure
