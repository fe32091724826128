/- HeadClose: a connection is closed just if one of its words is close, capitals or not. No condition. -/
import Derived.Test.YtaafeojjcfognaaXHeadRows
import Derived.Test.YtaafeojjcfognaaX21
set_option linter.unusedVariables false
set_option linter.unusedSimpArgs false
namespace Go.Proofs.Ytaafeojjcfognaa.Pure
open Go.RowKit Go.Proofs.Ytaafeojjcfognaa.X Go.Proofs.YtaafeojjcfognaaW.PrintWords Go.Proofs.YtaafeojjcfognaaW.PrintLast Go.Proofs.Ytaafeojjcfognaa.M

def conn : List UInt8 := [67, 111, 110, 110, 101, 99, 116, 105, 111, 110]
def cline (s : List UInt8) : List UInt8 := conn ++ 58 :: s
theorem cline_field (s : List UInt8) (h : valueL (trimL s) = true) : fieldL (cline s) = ((sCon, trimL s), true) := by
  rw [cline, field_of conn s (by decide) (by decide +kernel) h]
  have : lowerL conn = sCon := by decide +kernel
  rw [this]
theorem close_parse (ls : List (List UInt8)) (hn : ls.length ≤ 10) (h : ∀ s ∈ ls, valueL (trimL s) = true) :
    parseL (lGet :: lHost :: ls.map cline) = ⟨[71, 69, 84], [47], fHost :: ls.map fun s => (sCon, trimL s), ls.any (fun s => closeW (trimL s)), 0, 0⟩ := by
  rw [get_parse _ (fHost :: ls.map fun s => (sCon, trimL s)) (by simp; omega) (fieldsL_cons _ _ _ _ field_host (fieldsL_map _ _ _ (fun s hs => cline_field s (h s hs))))]
  have no (name : List UInt8) (hne : sCon ≠ name) : allL name (ls.map fun s => ((sCon, trimL s) : FldM)) = [] := allL_no _ _ (fun f hf => by
    obtain ⟨s, _, rfl⟩ := List.mem_map.1 hf
    exact hne)
  have yes : allL sCon (ls.map fun s => ((sCon, trimL s) : FldM)) = ls.map trimL := by
    rw [allL_yes _ _ (fun f hf => by obtain ⟨s, _, rfl⟩ := List.mem_map.1 hf; rfl), List.map_map]; rfl
  rw [frame_plain _ _ _ (by rw [allL_cons, if_pos (show fHost.1 = sHost from rfl), no _ (by decide)]; rfl) (by rw [allL_cons, if_neg (by decide), no _ (by decide)]) (by rw [allL_cons, if_neg (by decide), no _ (by decide)])]
  rw [closeL, allL_cons, if_neg (by decide), yes, List.any_map]
  rfl
theorem close_all (ls : List (List UInt8)) : (allL sCon (fHost :: ls.map fun s => ((sCon, trimL s) : FldM))).length = ls.length := by
  rw [allL_cons, if_neg (by decide), allL_yes _ _ (fun f hf => by obtain ⟨s, _, rfl⟩ := List.mem_map.1 hf; rfl)]; simp
section
variable (ls : List (List UInt8)) (hn : ls.length ≤ 10)
include hn
omit hn in
theorem close_l1 (w : Bool) (x3 : List ByteArray) (i : Int) (R : Bool) (ws : List (List UInt8)) (hw : ws.length ≤ 100000) (hwl : ∀ w ∈ ws, w.length ≤ 100000) (post : List (List UInt8)) : ∀ (pre : List (List UInt8)) (want : Bool), ws = pre ++ post →
    Ev (fun k => crossroadlaw02_HeadClose.l0 k (ls.map toBA) x3 (want || post.any isClose) (ls.map toBA) (ls.length : Int) (wrap64 (i + 1))) R →
    Ev (fun k => crossroadlaw02_HeadClose.l1 k (ls.map toBA) x3 want (ls.map toBA) (ls.length : Int) i (ws.map toBA) (ws.length : Int) (pre.length : Int)) R := by
  induction post with
  | nil =>
    intro pre want h hv
    have hp : pre.length = ws.length := by subst h; simp
    refine Ev.step' ?_
    simp only [crossroadlaw02_HeadClose.l1, if_neg (show ¬ (pre.length : Int) < (ws.length : Int) by omega)]
    simpa using hv
  | cons w r ih =>
    intro pre want h hv
    have hp : pre.length < ws.length := by subst h; simp
    have hr : rdOf ByteArray.empty (ws.map toBA) (pre.length : Int) = toBA w := by rw [h]; exact rdOf_mid _ _ _
    have hwr : wrap64 ((pre.length : Int) + 1) = ((pre ++ [w]).length : Int) := by rw [w64 (by omega) (by omega)]; simp
    have hwlen := hwl w (by rw [h]; simp)
    have htl := trim_len w
    refine Ev.step' ?_
    simp only [crossroadlaw02_HeadClose.l1, if_pos (show (pre.length : Int) < (ws.length : Int) by omega), if_pos (show (0 : Int) ≤ (pre.length : Int) by omega), List.length_map, hr, hwr]
    cases want with
    | true =>
      simp only [if_true]
      exact ih (pre ++ [w]) true (by simp [h]) (by simpa using hv)
    | false =>
      simp only [Bool.false_eq_true, if_false]
      refine Ev.bind (trim_f w (by omega)) ?_
      simp only [lower_f (trimL w) (by omega), Option.bind_some, toBA_toList]
      have e : (lowerL (trimL w) == ([99, 108, 111, 115, 101] : List UInt8)) = isClose w := by
        rw [Bool.eq_iff_iff, beq_iff_eq, isClose, decide_eq_true_iff]; exact Iff.rfl
      rw [e]
      exact ih (pre ++ [w]) (isClose w) (by simp [h]) (by simpa using hv)
theorem close_l0 (post : List (List UInt8)) : ∀ pre : List (List UInt8), ls = pre ++ post → (∀ s ∈ pre, s.length ≤ 60 ∧ valueL (trimL s) = true) →
    Ev (fun k => crossroadlaw02_HeadClose.l0 k (ls.map toBA) ((lGet :: lHost :: pre.map cline).map toBA) (pre.any (fun s => closeW (trimL s))) (ls.map toBA) (ls.length : Int) (pre.length : Int)) true := by
  induction post with
  | nil =>
    intro pre h hpre
    obtain rfl : pre = ls := by simp [h]
    refine Ev.step' ?_
    simp only [crossroadlaw02_HeadClose.l0, if_neg (show ¬ (pre.length : Int) < (pre.length : Int) by omega)]
    have p := parse_f (lGet :: lHost :: pre.map cline) (by simp; omega) (by
      intro l hl
      simp only [List.mem_cons, List.mem_map] at hl
      rcases hl with rfl | rfl | ⟨s, hs, rfl⟩
      · decide
      · decide
      · have := (hpre s hs).1
        simp [cline, conn]; omega)
    refine Ev.bind p ?_
    rw [close_parse pre hn (fun s hs => (hpre s hs).2)]
    have s10 : (⟨#[99, 111, 110, 110, 101, 99, 116, 105, 111, 110]⟩ : ByteArray) = toBA sCon := rfl
    simp only [hT, if_true, beq_self_eq_true, s10, List.length_map]
    refine Ev.bind (all_f sCon (fHost :: pre.map fun s => (sCon, trimL s)) (by simp; omega)) ?_
    exact Ev.const (by rw [List.length_map, close_all]; simp)
  | cons s r ih =>
    intro pre h hpre
    have hp : pre.length < ls.length := by subst h; simp
    have hr : rdOf ByteArray.empty (ls.map toBA) (pre.length : Int) = toBA s := by rw [h]; exact rdOf_mid _ _ _
    have hwr : wrap64 ((pre.length : Int) + 1) = ((pre ++ [s]).length : Int) := by rw [w64 (by omega) (by omega)]; simp
    refine Ev.step' ?_
    simp only [crossroadlaw02_HeadClose.l0, if_pos (show (pre.length : Int) < (ls.length : Int) by omega), if_pos (show (0 : Int) ≤ (pre.length : Int) by omega), List.length_map, hr, toBA_size]
    have out : Ev (fun k => crossroadlaw02_HeadClose.j1 k (ls.map toBA) ((lGet :: lHost :: pre.map cline).map toBA) (pre.any (fun s => closeW (trimL s))) (toBA s) (ls.map toBA) (ls.length : Int) (pre.length : Int) true) true := by
      refine Ev.step' ?_
      simp only [crossroadlaw02_HeadClose.j1, if_true]
      exact Ev.now true
    by_cases h60 : s.length > 60
    · simp only [if_pos (show (s.length : Int) > 60 by omega)]
      exact out
    · simp only [if_neg (show ¬ (s.length : Int) > 60 by omega)]
      refine Ev.bind (trim_f s (by omega)) ?_
      simp only [value_f, Option.bind_some]
      cases hv : valueL (trimL s) with
      | false => exact out
      | true =>
        simp only [Bool.not_true]
        refine Ev.step' ?_
        have s11 : (⟨#[67, 111, 110, 110, 101, 99, 116, 105, 111, 110, 58]⟩ : ByteArray) ++ toBA s = toBA (cline s) := by
          rw [show (⟨#[67, 111, 110, 110, 101, 99, 116, 105, 111, 110, 58]⟩ : ByteArray) = toBA (conn ++ [58]) from rfl, toBA_append]
          congr 1
        simp only [crossroadlaw02_HeadClose.j1, Bool.false_eq_true, if_false, toBA_size, if_pos (show 11 + s.length ≤ 9223372036854775807 by omega), if_pos (show ((lGet :: lHost :: pre.map cline).map toBA).length < 8796093022208 by simp; omega), s11]
        have htl := trim_len s
        refine Ev.bind (trim_f s (by omega)) ?_
        refine Ev.bind (words_f 44 (trimL s) (by omega)) ?_
        have hwn := wordsGo_len 44 (trimL s) []
        have hwl : ∀ w ∈ wordsL 44 (trimL s), w.length ≤ 100000 := fun w hw => by have := words_len_le 44 (trimL s) [] w hw; simp at this; omega
        have key := ih (pre ++ [s]) (by simp [h]) (fun x hx => by
          rcases List.mem_append.1 hx with hx | hx
          · exact hpre x hx
          · rw [List.mem_singleton.1 hx]; exact ⟨by omega, hv⟩)
        have key2 := close_l1 ls true ((lGet :: lHost :: (pre ++ [s]).map cline).map toBA) (pre.length : Int) true (wordsL 44 (trimL s)) (by simp only [wordsL]; omega) hwl (wordsL 44 (trimL s)) [] (pre.any (fun s => closeW (trimL s))) rfl (by
          rw [hwr]
          simpa [closeW] using key)
        simpa using key2
end
theorem HeadClose (l0 : List ByteArray) (_ : l0.length * Try.prog.bytesOf 9 ≤ 140737488351232 ∧ ∀ x ∈ l0, x.size ≤ 140737488351232) : ∃ k, crossroadlaw02_HeadClose.f k l0 = some true := by
  obtain ⟨ls, rfl⟩ := exBAs l0
  refine Ev.rounds (g := fun k => crossroadlaw02_HeadClose.f k (ls.map toBA)) ?_
  simp only [crossroadlaw02_HeadClose.f, List.length_map]
  refine Ev.bind fit_f ?_
  simp only [if_true]
  by_cases h1 : ls.length > 10
  · simp only [if_pos (show (ls.length : Int) > 10 by omega)]
    exact Ev.now true
  · simp only [if_neg (show ¬ (ls.length : Int) > 10 by omega)]
    exact close_l0 ls (by omega) ls [] rfl (by simp)
end Go.Proofs.Ytaafeojjcfognaa.Pure
