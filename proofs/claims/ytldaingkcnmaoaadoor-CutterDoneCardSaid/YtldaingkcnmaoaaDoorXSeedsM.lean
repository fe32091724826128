-- Made smaller by wip/squeeze.py out of this claim's texts. Not trusted: Lean checks it.
import Derived.Test.YtldaingkcnmaoaaDoorXSeedM
set_option linter.unusedVariables false
set_option linter.unusedSimpArgs false
namespace Go.Proofs.YtldaingkcnmaoaaDoor.M
open Go.RowKit Go.Proofs.YtldaingkcnmaoaaDoor.X Go.Proofs.YtldaingkcnmaoaaDoorW.PrintWords
theorem and_zero15 : bits .and .i64 0 15 = 0 := by decide
theorem ev_get {α : Type} {f : Nat → Option α} {a : α} (h : Ev f a) : ∃ K, f K = some a := by
  obtain ⟨K, h⟩ := h
  exact ⟨K, h K (Nat.le_refl _)⟩
theorem seed_len (mi ti bi tk ch : Nat) (cl : Bool) (wr : Nat) (hm : mi < 6) (ht : ti < 16) (hk : tk < 4) (hc : ch < 4) (hb : bi < 8) (hw : wr < 4) : (seedL mi ti bi tk ch cl wr).length ≤ 5000 := by
  obtain ⟨_, hsz⟩ := seed_fit mi ti tk ch bi wr cl hm ht hk hc hb hw
  have hlen := bodies_len ⟨bi, hb⟩
  simp only at hlen
  have ht2 : ∀ ws : List (List UInt8), ((textOf ws).length : Int) = sizeOf' ws := by
    intro ws
    induction ws with
    | nil => rfl
    | cons w r ih => simp only [textOf, sizeOf', List.length_append, List.length_cons]; omega
  have h1 := ht2 (lFirst mi ti :: lRest tk cl wr ch bi)
  have h2 : (lBody wr ch bi).length ≤ 3000 := by
    unfold lBody
    split
    · simp
    · split
      · rename_i h
        have := chunks_len ch h (by omega) (bL bi).length (bL bi)
        omega
      · omega
  simp only [seedL, List.length_append, List.length_cons]
  omega
end Go.Proofs.YtldaingkcnmaoaaDoor.M
set_option linter.unusedVariables false
set_option linter.unusedSimpArgs false
namespace Go.Proofs.YtldaingkcnmaoaaDoor.M
open Go.RowKit Go.Proofs.YtldaingkcnmaoaaDoor.X Go.Proofs.YtldaingkcnmaoaaDoorW.PrintWords
structure SeedR where
  m : Nat
  t : Nat
  b : Nat
  k : Nat
  c : Nat
  cl : Bool
  wr : Nat
def SeedR.ok (s : SeedR) : Prop := s.m < 6 ∧ s.t < 16 ∧ s.k < 4 ∧ s.c < 4 ∧ s.b < 8 ∧ s.wr < 4
def SeedR.text (s : SeedR) : List UInt8 := seedL s.m s.t s.b s.k s.c s.cl s.wr
def SeedR.rq (s : SeedR) : Rq := reqOf (headS s.m s.t s.k s.cl s.c s.b) (bL s.b)
def textS : List SeedR → List UInt8
  | [] => []
  | s :: r => s.text ++ textS r
def wantS : List SeedR → List SeedR × Int × Bool
  | [] => ([], 0, false)
  | s :: r => if s.wr ≠ 0 then ([], wrongS s.wr, true) else if s.cl = true then ([s], 0, true) else (s :: (wantS r).1, (wantS r).2)
theorem textS_app (a b : List SeedR) : textS (a ++ b) = textS a ++ textS b := by
  induction a with
  | nil => rfl
  | cons s r ih => simp [textS, ih, List.append_assoc]
theorem textS_len (l : List SeedR) (h : ∀ s ∈ l, s.ok) : (textS l).length ≤ 5000 * l.length := by
  induction l with
  | nil => exact Nat.le_refl _
  | cons s r ih =>
    obtain ⟨h1, h2, h3, h4, h5, h6⟩ := h s (by simp)
    have := seed_len s.m s.t s.b s.k s.c s.cl s.wr h1 h2 h3 h4 h5 h6
    have := ih (fun x hx => h x (by simp [hx]))
    simp only [textS, SeedR.text, List.length_append, List.length_cons]
    omega
theorem want_st (l : List SeedR) : (wantS l).2.2 = false → (wantS l).2.1 = 0 := by
  induction l with
  | nil => intro _; rfl
  | cons s r ih =>
    rw [wantS]
    split
    · intro h; cases h
    · split
      · intro h; cases h
      · exact ih
theorem run_over (l : List SeedR) : ∀ (c : CutS) (out : List Rq) (rest : List UInt8), (∀ s ∈ l, s.ok) → (wantS l).2.2 = true →
    ∃ c2, runM (textS l ++ rest) (hs c [] [] 0) out = (c2, out ++ (wantS l).1.map SeedR.rq) ∧ c2.done = true ∧ c2.status = (wantS l).2.1 := by
  induction l with
  | nil => intro c out rest _ h; cases h
  | cons s r ih =>
    intro c out rest h ho
    obtain ⟨h1, h2, h3, h4, h5, h6⟩ := h s (by simp)
    rw [textS, List.append_assoc]
    by_cases hw : s.wr ≠ 0
    · obtain ⟨c2, e, d, st⟩ := seed_bad c out (textS r ++ rest) s.m s.t s.b s.k s.c s.cl s.wr h1 h2 h3 h4 h5 h6 hw
      have ew : wantS (s :: r) = ([], wrongS s.wr, true) := by rw [wantS, if_pos hw]
      rw [ew]
      exact ⟨c2, by rw [SeedR.text, e]; simp, d, st⟩
    · have hw0 : s.wr = 0 := by omega
      obtain ⟨c2, e, k1, k2⟩ := seed_good c out (textS r ++ rest) s.m s.t s.b s.k s.c s.cl h1 h2 h3 h4 h5
      have et : s.text = seedL s.m s.t s.b s.k s.c s.cl 0 := by rw [SeedR.text, hw0]
      rw [et, e]
      by_cases hc : s.cl = true
      · have ew : wantS (s :: r) = ([s], 0, true) := by rw [wantS, if_neg hw, if_pos hc]
        rw [ew, runM_done _ _ _ (k2 hc).1]
        exact ⟨c2, rfl, (k2 hc).1, (k2 hc).2⟩
      · have ew : wantS (s :: r) = (s :: (wantS r).1, (wantS r).2) := by rw [wantS, if_neg hw, if_neg hc]
        obtain ⟨c', rfl⟩ := k1 (by simpa using hc)
        rw [ew] at ho
        obtain ⟨c3, e3, d3, s3⟩ := ih c' (out ++ [s.rq]) rest (fun x hx => h x (by simp [hx])) ho
        rw [ew]
        refine ⟨c3, ?_, d3, s3⟩
        show runM (textS r ++ rest) (hs c' [] [] 0) (out ++ [s.rq]) = _
        rw [e3]
        simp
theorem run_open (l : List SeedR) : ∀ (c : CutS) (out : List Rq) (rest : List UInt8), (∀ s ∈ l, s.ok) → (wantS l).2.2 = false →
    ∃ c', runM (textS l ++ rest) (hs c [] [] 0) out = runM rest (hs c' [] [] 0) (out ++ (wantS l).1.map SeedR.rq) := by
  induction l with
  | nil => intro c out rest _ _; exact ⟨c, by simp [textS, wantS]⟩
  | cons s r ih =>
    intro c out rest h ho
    obtain ⟨h1, h2, h3, h4, h5, h6⟩ := h s (by simp)
    rw [textS, List.append_assoc]
    by_cases hw : s.wr ≠ 0
    · rw [wantS, if_pos hw] at ho
      cases ho
    · have hw0 : s.wr = 0 := by omega
      by_cases hc : s.cl = true
      · rw [wantS, if_neg hw, if_pos hc] at ho
        cases ho
      · obtain ⟨c2, e, k1, k2⟩ := seed_good c out (textS r ++ rest) s.m s.t s.b s.k s.c s.cl h1 h2 h3 h4 h5
        have et : s.text = seedL s.m s.t s.b s.k s.c s.cl 0 := by rw [SeedR.text, hw0]
        have ew : wantS (s :: r) = (s :: (wantS r).1, (wantS r).2) := by rw [wantS, if_neg hw, if_neg hc]
        obtain ⟨c', rfl⟩ := k1 (by simpa using hc)
        rw [ew] at ho
        obtain ⟨c3, e3⟩ := ih c' (out ++ [s.rq]) rest (fun x hx => h x (by simp [hx])) ho
        rw [et, e, ew]
        refine ⟨c3, ?_⟩
        show runM (textS r ++ rest) (hs c' [] [] 0) (out ++ [s.rq]) = _
        rw [e3]
        simp
theorem seeds_all (l : List SeedR) (h : ∀ s ∈ l, s.ok) (hl : l.length ≤ 20) : Ev (fun k => cutter_All.f k (toBA (textS l))) ((wantS l).1.map SeedR.rq, (wantS l).2.1) := by
  have hlen := textS_len l h
  have a := cut_all_f (textS l) (by omega)
  rw [new_hs] at a
  cases ho : (wantS l).2.2 with
  | true =>
    obtain ⟨c2, e, _, st⟩ := run_over l newC [] [] h ho
    rw [List.append_nil, List.nil_append] at e
    rw [e, st] at a
    exact a
  | false =>
    obtain ⟨c2, e⟩ := run_open l newC [] [] h ho
    rw [List.append_nil, List.nil_append] at e
    rw [e] at a
    rw [want_st l ho]
    exact a
theorem want_over (l : List SeedR) (s : SeedR) (hl : ∀ x ∈ l, x.wr = 0 ∧ x.cl = false) (hs : s.wr ≠ 0 ∨ s.cl = true) : (wantS (l ++ [s])).2.2 = true := by
  induction l with
  | nil =>
    rw [List.nil_append, wantS]
    split
    · rfl
    · rename_i h
      rw [if_pos (hs.resolve_left h)]
  | cons x r ih =>
    obtain ⟨h1, h2⟩ := hl x (by simp)
    rw [List.cons_append, wantS, if_neg (by rw [h1]; decide), if_neg (by rw [h2]; decide)]
    exact ih (fun y hy => hl y (by simp [hy]))
theorem seeds_more (l : List SeedR) (h : ∀ s ∈ l, s.ok) (hl : l.length ≤ 20) (ho : (wantS l).2.2 = true) (more : List UInt8) (hm : more.length ≤ 1000) : Ev (fun k => cutter_All.f k (toBA (textS l ++ more))) ((wantS l).1.map SeedR.rq, (wantS l).2.1) := by
  have hlen := textS_len l h
  have a := cut_all_f (textS l ++ more) (by rw [List.length_append]; omega)
  rw [new_hs] at a
  obtain ⟨c2, e, _, st⟩ := run_over l newC [] more h ho
  rw [List.nil_append] at e
  rw [e, st] at a
  exact a
end Go.Proofs.YtldaingkcnmaoaaDoor.M
