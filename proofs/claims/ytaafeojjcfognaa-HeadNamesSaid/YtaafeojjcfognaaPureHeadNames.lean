/- HeadNames: names are told small, values without blanks around, all in their order. No condition. -/
import Derived.Test.YtaafeojjcfognaaXHeadRows
import Derived.Test.YtaafeojjcfognaaX22
set_option linter.unusedVariables false
set_option linter.unusedSimpArgs false
namespace Go.Proofs.Ytaafeojjcfognaa.Pure
open Go.RowKit Go.Proofs.Ytaafeojjcfognaa.X Go.Proofs.YtaafeojjcfognaaW.PrintWords Go.Proofs.YtaafeojjcfognaaW.PrintLast Go.Proofs.Ytaafeojjcfognaa.M

def bHost : List UInt8 := [72, 79, 83, 84, 58, 32, 97]
theorem field_bhost : fieldL bHost = (fHost, true) := by decide +kernel
def nline (v s : List UInt8) : List UInt8 := s ++ 58 :: v
def nfld (v s : List UInt8) : FldM := (lowerL s, trimL v)
def nameOk (s : List UInt8) : Prop := s.length ≤ 40 ∧ tokenL s = true ∧ lowerL s ≠ sHost ∧ lowerL s ≠ sLen ∧ lowerL s ≠ sCod
section
variable (v : List UInt8) (hv60 : v.length ≤ 60) (hv : valueL (trimL v) = true) (ls : List (List UInt8)) (hn : ls.length ≤ 12)
include hv hn
theorem names_parse (h : ∀ s ∈ ls, nameOk s) : parseL (lGet :: bHost :: ls.map (nline v)) = ⟨[71, 69, 84], [47], fHost :: ls.map (nfld v), closeL (fHost :: ls.map (nfld v)), 0, 0⟩ := by
  rw [get_parse _ (fHost :: ls.map (nfld v)) (by simp; omega) (fieldsL_cons _ _ _ _ field_bhost (fieldsL_map (nline v) (nfld v) ls (fun s hs => field_of s v (token_colon s (h s hs).2.1) (h s hs).2.1 hv)))]
  have no (name : List UInt8) (hne : ∀ s ∈ ls, lowerL s ≠ name) : allL name (ls.map (nfld v)) = [] := allL_no _ _ (fun f hf => by
    obtain ⟨s, hs, rfl⟩ := List.mem_map.1 hf
    exact hne s hs)
  rw [frame_plain _ _ _ (by rw [allL_cons, if_pos (show fHost.1 = sHost from rfl), no _ (fun s hs => (h s hs).2.2.1)]; rfl) (by rw [allL_cons, if_neg (by decide), no _ (fun s hs => (h s hs).2.2.2.1)]) (by rw [allL_cons, if_neg (by decide), no _ (fun s hs => (h s hs).2.2.2.2)])]
omit hv in
include hv60 in
theorem names_l1 (a b d : ByteArray) (cl : Bool) (n st : Int) (hl : ∀ s ∈ ls, s.length ≤ 40) (post : List (List UInt8)) : ∀ pre : List (List UInt8), ls = pre ++ post →
    Ev (fun k => crossroadlaw02_HeadNames.l1 k (toBA v) (ls.map toBA) (ls.length : Int) (pre.length : Int) a b ((fHost :: ls.map (nfld v)).map fT) d cl n st) true := by
  induction post with
  | nil =>
    intro pre h
    have hp : pre.length = ls.length := by subst h; simp
    refine Ev.step' ?_
    simp only [crossroadlaw02_HeadNames.l1, if_neg (show ¬ (pre.length : Int) < (ls.length : Int) by omega)]
    exact Ev.now true
  | cons s r ih =>
    intro pre h
    have hp : pre.length < ls.length := by subst h; simp
    have hr : rdOf ByteArray.empty (ls.map toBA) (pre.length : Int) = toBA s := by rw [h]; exact rdOf_mid _ _ _
    have hwr : wrap64 ((pre.length : Int) + 1) = ((pre ++ [s]).length : Int) := by rw [w64 (by omega) (by omega)]; simp
    have hsl := hl s (by rw [h]; simp)
    have hr2 : rd_T27 ((fHost :: ls.map (nfld v)).map fT) ((pre ++ [s]).length : Int) = fT (nfld v s) := by rw [h]; simp [rd_T27]
    have hlen : ((fHost :: ls.map (nfld v)).map fT).length = ls.length + 1 := by simp
    have hps : (pre ++ [s]).length = pre.length + 1 := by simp
    refine Ev.step' ?_
    simp only [crossroadlaw02_HeadNames.l1, if_pos (show (pre.length : Int) < (ls.length : Int) by omega), if_pos (show (0 : Int) ≤ (pre.length : Int) by omega), List.length_map (f := toBA), hr, hwr, if_pos (show (0 : Int) ≤ ((pre ++ [s]).length : Int) by omega), hlen, if_pos (show ((pre ++ [s]).length : Int) < ((ls.length + 1 : Nat) : Int) by omega), hr2, lower_f s (by omega), Option.bind_some]
    refine Ev.bind (trim_f v (by omega)) ?_
    have e : (!((((fT (nfld v s)).f0).toList) == (toBA (lowerL s)).toList) || (!((((fT (nfld v s)).f1).toList) == (toBA (trimL v)).toList))) = false := by simp [fT, nfld]
    simp only [e, Bool.false_eq_true, if_false]
    exact ih (pre ++ [s]) (by simp [h])
include hv60
theorem names_l0 (post : List (List UInt8)) (hz : ∀ s ∈ ls, s.length ≤ 140737488351232) : ∀ pre : List (List UInt8), ls = pre ++ post → (∀ s ∈ pre, nameOk s) →
    Ev (fun k => crossroadlaw02_HeadNames.l0 k (ls.map toBA) (toBA v) ((lGet :: bHost :: pre.map (nline v)).map toBA) (ls.map toBA) (ls.length : Int) (pre.length : Int)) true := by
  induction post with
  | nil =>
    intro pre h hpre
    obtain rfl : pre = ls := by simp [h]
    refine Ev.step' ?_
    simp only [crossroadlaw02_HeadNames.l0, if_neg (show ¬ (pre.length : Int) < (pre.length : Int) by omega)]
    have p := parse_f (lGet :: bHost :: pre.map (nline v)) (by simp; omega) (by
      intro l hl
      simp only [List.mem_cons, List.mem_map] at hl
      rcases hl with rfl | rfl | ⟨s, hs, rfl⟩
      · decide
      · decide
      · have := (hpre s hs).1
        simp [nline]; omega)
    refine Ev.bind p ?_
    rw [names_parse v hv pre hn hpre]
    have hlen : ((fHost :: pre.map (nfld v)).map fT).length = pre.length + 1 := by simp
    have hw : wrap64 ((pre.length : Int) + 1) = ((pre.length + 1 : Nat) : Int) := by rw [w64 (by omega) (by omega)]; omega
    have hr0 : rd_T27 ((fHost :: pre.map (nfld v)).map fT) 0 = fT fHost := rfl
    have e : (!((((fT fHost).f0).toList) == ([104, 111, 115, 116] : List UInt8)) || (!((((fT fHost).f1).toList) == ([97] : List UInt8)))) = false := by simp [fT, fHost, sHost]
    simp only [hT, if_true, hlen, List.length_map (f := toBA), hw, if_pos (show (0 : Int) < ((pre.length + 1 : Nat) : Int) by omega), hr0, e]
    refine Ev.step' ?_
    simp only [crossroadlaw02_HeadNames.j2, Bool.false_eq_true, if_false, List.length_map (f := toBA)]
    exact names_l1 v hv60 pre hn _ _ _ _ _ _ (fun s hs => (hpre s hs).1) pre [] rfl
  | cons s r ih =>
    intro pre h hpre
    have hp : pre.length < ls.length := by subst h; simp
    have hr : rdOf ByteArray.empty (ls.map toBA) (pre.length : Int) = toBA s := by rw [h]; exact rdOf_mid _ _ _
    have hwr : wrap64 ((pre.length : Int) + 1) = ((pre ++ [s]).length : Int) := by rw [w64 (by omega) (by omega)]; simp
    have hsz := hz s (by rw [h]; simp)
    refine Ev.step' ?_
    simp only [crossroadlaw02_HeadNames.l0, if_pos (show (pre.length : Int) < (ls.length : Int) by omega), if_pos (show (0 : Int) ≤ (pre.length : Int) by omega), List.length_map (f := toBA), hr, hwr, toBA_size, lower_f s (by omega), Option.bind_some, toBA_toList]
    by_cases h40 : s.length > 40
    · simp only [if_pos (show (s.length : Int) > 40 by omega)]
      exact Ev.now true
    · simp only [if_neg (show ¬ (s.length : Int) > 40 by omega)]
      refine Ev.bind (token_f s (by omega)) ?_
      cases ht : tokenL s with
      | false => simp only [Bool.false_eq_true, if_false]; exact Ev.now true
      | true =>
        simp only [if_true]
        by_cases q1 : lowerL s = sHost
        · simp only [if_pos (show lowerL s = ([104, 111, 115, 116] : List UInt8) from q1)]; exact Ev.now true
        · simp only [if_neg (show ¬ lowerL s = ([104, 111, 115, 116] : List UInt8) from q1)]
          by_cases q2 : lowerL s = sLen
          · simp only [if_pos (show lowerL s = ([99, 111, 110, 116, 101, 110, 116, 45, 108, 101, 110, 103, 116, 104] : List UInt8) from q2)]; exact Ev.now true
          · simp only [if_neg (show ¬ lowerL s = ([99, 111, 110, 116, 101, 110, 116, 45, 108, 101, 110, 103, 116, 104] : List UInt8) from q2)]
            by_cases q3 : lowerL s = sCod
            · simp only [if_pos (show lowerL s = ([116, 114, 97, 110, 115, 102, 101, 114, 45, 101, 110, 99, 111, 100, 105, 110, 103] : List UInt8) from q3)]; exact Ev.now true
            · have s1 : (⟨#[58]⟩ : ByteArray) = toBA [58] := rfl
              have e : s ++ [58] ++ v = nline v s := by simp [nline]
              simp only [if_neg (show ¬ lowerL s = ([116, 114, 97, 110, 115, 102, 101, 114, 45, 101, 110, 99, 111, 100, 105, 110, 103] : List UInt8) from q3), s1, toBA_append, toBA_size, List.length_append, List.length_singleton, if_pos (show s.length + 1 ≤ 9223372036854775807 by omega), if_pos (show s.length + 1 + v.length ≤ 9223372036854775807 by omega), if_pos (show (lGet :: bHost :: pre.map (nline v)).length < 8796093022208 by simp; omega), e]
              have key := ih (pre ++ [s]) (by simp [h]) (fun x hx => by
                rcases List.mem_append.1 hx with hx | hx
                · exact hpre x hx
                · rw [List.mem_singleton.1 hx]; exact ⟨by omega, ht, q1, q2, q3⟩)
              simpa using key
end
theorem HeadNames (l0 : List ByteArray) (a1 : ByteArray) (hz : l0.length * Try.prog.bytesOf 9 ≤ 140737488351232 ∧ ∀ x ∈ l0, x.size ≤ 140737488351232) (s1 : a1.size ≤ 140737488351232) : ∃ k, crossroadlaw02_HeadNames.f k l0 a1 = some true := by
  obtain ⟨ls, rfl⟩ := exBAs l0
  obtain ⟨v, rfl⟩ := exBA a1
  have hz' : ∀ s ∈ ls, s.length ≤ 140737488351232 := fun s hs => by have := hz.2 (toBA s) (List.mem_map_of_mem hs); simpa using this
  simp only [toBA_size] at s1
  refine Ev.rounds (g := fun k => crossroadlaw02_HeadNames.f k (ls.map toBA) (toBA v)) ?_
  simp only [crossroadlaw02_HeadNames.f, List.length_map, toBA_size]
  refine Ev.bind fit_f ?_
  simp only [if_true]
  have out : Ev (fun k => crossroadlaw02_HeadNames.j0 k (ls.map toBA) (toBA v) true) true := by
    refine Ev.step' ?_
    simp only [crossroadlaw02_HeadNames.j0, if_true]
    exact Ev.now true
  by_cases h1 : ls.length > 12
  · simp only [if_pos (show (ls.length : Int) > 12 by omega)]
    exact out
  · simp only [if_neg (show ¬ (ls.length : Int) > 12 by omega)]
    by_cases h2 : v.length > 60
    · simp only [if_pos (show (v.length : Int) > 60 by omega)]
      exact out
    · simp only [if_neg (show ¬ (v.length : Int) > 60 by omega)]
      refine Ev.bind (trim_f v (by omega)) ?_
      simp only [value_f, Option.bind_some]
      cases hv : valueL (trimL v) with
      | false => exact out
      | true =>
        simp only [Bool.not_true]
        refine Ev.step' ?_
        simp only [crossroadlaw02_HeadNames.j0, Bool.false_eq_true, if_false, List.length_map]
        exact names_l0 v (by omega) hv ls (by omega) ls hz' [] rfl (by simp)
end Go.Proofs.Ytaafeojjcfognaa.Pure
