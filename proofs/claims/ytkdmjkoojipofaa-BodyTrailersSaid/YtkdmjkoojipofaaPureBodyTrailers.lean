/- BodyTrailers: lines behind the last chunk play no part, up to an empty one. -/
import Derived.Test.YtkdmjkoojipofaaXChunksM
import Derived.Test.YtkdmjkoojipofaaX18
set_option linter.unusedVariables false
set_option linter.unusedSimpArgs false
namespace Go.Proofs.Ytkdmjkoojipofaa.Pure
open Go.RowKit Go.Proofs.Ytkdmjkoojipofaa.X Go.Proofs.YtkdmjkoojipofaaW.PrintWords Go.Proofs.YtkdmjkoojipofaaW.PrintMore Go.Proofs.YtkdmjkoojipofaaW.PrintLast Go.Proofs.Ytkdmjkoojipofaa.M

/-- Chunks, up to the size of nought. -/
def lead : Nat → Nat → List UInt8 → List UInt8
  | 0, _, _ => [48, 13, 10]
  | f + 1, n, s => if s = [] then [48, 13, 10] else (hexD (min n s.length) ++ [13, 10] ++ s.take n ++ [13, 10]) ++ lead f n (s.drop n)
theorem lead_chunks : ∀ (f n : Nat) (s : List UInt8), chunksF f n s = lead f n s ++ [13, 10] := by
  intro f
  induction f with
  | zero => intro n s; rfl
  | succ f ih =>
    intro n s
    rw [chunksF, lead]
    split
    · rfl
    · rw [ih]; simp only [List.append_assoc]
theorem lead_run (n : Nat) (h0 : 0 < n) (hn : n < 65) (more : List UInt8) : ∀ (f : Nat) (s d : List UInt8), s.length ≤ f → d.length + s.length ≤ 600 →
    runB (lnB 0 d []) (lead f n s ++ more) = ((runB (lnB 3 (d ++ s) []) more).1, (runB (lnB 3 (d ++ s) []) more).2 + (lead f n s).length) := by
  have fin : ∀ d : List UInt8, runB (lnB 0 d []) ([48, 13, 10] ++ more) = ((runB (lnB 3 d []) more).1, (runB (lnB 3 d []) more).2 + 3) := fun d => by
    rw [show ([48, 13, 10] : List UInt8) ++ more = 48 :: 13 :: 10 :: more from rfl, nought_run]
  intro f
  induction f with
  | zero =>
    intro s d hs h
    have e : s = [] := List.eq_nil_of_length_eq_zero (by omega)
    subst e
    rw [lead, fin, List.append_nil]; rfl
  | succ f ih =>
    intro s d hs h
    rw [lead]
    by_cases e : s = []
    · rw [if_pos e, fin, e, List.append_nil]; rfl
    · have h3 : 0 < s.length := List.length_pos_iff.2 e
      have hl : (s.take n).length = min n s.length := List.length_take
      have hne : s.take n ≠ [] := fun e3 => by
        have e4 := congrArg List.length e3
        rw [hl, List.length_nil] at e4
        omega
      have e2 : hexD (min n s.length) ++ [13, 10] ++ s.take n ++ [13, 10] ++ lead f n (s.drop n) ++ more = hexD (min n s.length) ++ 13 :: 10 :: (s.take n ++ 13 :: 10 :: (lead f n (s.drop n) ++ more)) := by simp
      have key := chunk_run d (hexD (min n s.length)) (s.take n) (lead f n (s.drop n) ++ more) (hexD_clean _ (by omega)) (by have := hexD_len (min n s.length) (by omega); omega) (by rw [hl]; exact hexD_num ⟨min n s.length, by omega⟩) hne (by rw [hl]; omega)
      rw [if_neg e, e2, key, ih (s.drop n) (d ++ s.take n) (by simp; omega) (by simp only [List.length_append, hl, List.length_drop]; omega), List.append_assoc, List.take_append_drop]
      refine Prod.ext rfl ?_
      simp only [List.length_append, List.length_cons, List.length_nil]
      omega
def tr : List (List UInt8) → List UInt8
  | [] => []
  | x :: r => x ++ [13, 10] ++ tr r
def OkT (x : List UInt8) : Prop := M.Clean x ∧ x ≠ [] ∧ x.length ≤ 100
theorem tr_snoc (l : List (List UInt8)) (x : List UInt8) : tr (l ++ [x]) = tr l ++ (x ++ [13, 10]) := by
  induction l with
  | nil => simp [tr]
  | cons y r ih => rw [List.cons_append, tr, ih, tr]; simp
theorem tr_len (l : List (List UInt8)) (h : ∀ x ∈ l, OkT x) : (tr l).length ≤ 102 * l.length := by
  induction l with
  | nil => simp [tr]
  | cons y r ih =>
    have h1 := ih (fun x hx => h x (by simp [hx]))
    have h2 := (h y (by simp)).2.2
    rw [tr]
    simp only [List.length_append, List.length_cons, List.length_nil]
    omega
theorem tr_run (d rest : List UInt8) (l : List (List UInt8)) (h : ∀ x ∈ l, OkT x) : runB (lnB 3 d []) (tr l ++ rest) = ((runB (lnB 3 d []) rest).1, (runB (lnB 3 d []) rest).2 + (tr l).length) := by
  induction l with
  | nil => rfl
  | cons y r ih =>
    obtain ⟨h1, h2, h3⟩ := h y (by simp)
    have e : tr (y :: r) ++ rest = y ++ 13 :: 10 :: (tr r ++ rest) := by simp [tr]
    rw [e, trailer_run d y _ h1 (by omega) h2, ih (fun x hx => h x (by simp [hx]))]
    refine Prod.ext rfl ?_
    simp only [tr, List.length_append, List.length_cons, List.length_nil]
    omega
theorem trail_l1 (s more t x : List UInt8) (xs : List ByteArray) (n i : Int) (hi0 : 0 ≤ i) (hi : i ≤ 1000) (hx : x.length ≤ 100) (ht : t.length ≤ 100000)
    (hk : M.Clean x → Ev (fun k => crossroadlaw03_BodyTrailers.l0 k (toBA s) (toBA more) (toBA (t ++ (x ++ [13, 10]))) xs n (i + 1)) true) (b : List UInt8) : ∀ a : List UInt8, x = a ++ b → M.Clean a →
    Ev (fun k => crossroadlaw03_BodyTrailers.l1 k (toBA s) (toBA more) (toBA t) (toBA x) xs n i (x.length : Int) (a.length : Int)) true := by
  induction b with
  | nil =>
    intro a h ha
    have e : x = a := by simpa using h
    subst e
    have c2 : (⟨#[13, 10]⟩ : ByteArray) = toBA [13, 10] := rfl
    have hw : wrap64 (i + 1) = i + 1 := w64 (by omega) (by omega)
    refine Ev.step' ?_
    simp only [crossroadlaw03_BodyTrailers.l1, if_neg (show ¬ (x.length : Int) < (x.length : Int) by omega), toBA_size, if_pos (show x.length + 2 ≤ 9223372036854775807 by omega), c2, toBA_append, List.length_append, List.length_cons, List.length_nil, if_pos (show t.length + (x.length + (0 + 1 + 1)) ≤ 9223372036854775807 by omega), hw]
    exact hk ha
  | cons c r ih =>
    intro a h ha
    have hp : a.length < x.length := by subst h; simp
    have hbt : bt (toBA x) (a.length : Int) = (c.toNat : Int) := by subst h; exact bt_mid _ _ _
    have hw : wrap64 ((a.length : Int) + 1) = ((a ++ [c]).length : Int) := by rw [w64 (by omega) (by omega)]; simp
    refine Ev.step' ?_
    simp only [crossroadlaw03_BodyTrailers.l1, if_pos (show (a.length : Int) < (x.length : Int) by omega), if_pos (show (0 : Int) ≤ (a.length : Int) by omega), toBA_size, hbt, hw]
    by_cases h13 : (c.toNat : Int) = 13
    · simp only [if_pos h13]; exact Ev.now true
    · simp only [if_neg h13]
      by_cases h10 : (c.toNat : Int) = 10
      · simp only [if_pos h10]; exact Ev.now true
      · simp only [if_neg h10]
        refine ih (a ++ [c]) (by simp [h]) (fun y hy => ?_)
        rcases List.mem_append.1 hy with hy | hy
        · exact ha y hy
        · rw [List.mem_singleton.1 hy]; exact ⟨by omega, by omega⟩
theorem trail_out (s more t x : ByteArray) (xs : List ByteArray) (n i : Int) : Ev (fun k => crossroadlaw03_BodyTrailers.j2 k s more t x xs n i true) true := by
  refine Ev.step' ?_
  simp only [crossroadlaw03_BodyTrailers.j2, if_true]
  exact Ev.now true
theorem trail_l0 (s more : List UInt8) (hs : s.length ≤ 500) (hm : more.length ≤ 100) (xs : List (List UInt8)) (hxs : xs.length ≤ 10) (post : List (List UInt8)) : ∀ pre : List (List UInt8), xs = pre ++ post → (∀ x ∈ pre, OkT x) →
    Ev (fun k => crossroadlaw03_BodyTrailers.l0 k (toBA s) (toBA more) (toBA (lead s.length 7 s ++ tr pre)) (xs.map toBA) (xs.length : Int) (pre.length : Int)) true := by
  have hL : (lead s.length 7 s).length ≤ 8 * s.length + 5 := by
    have := chunks_len 7 (by omega) (by omega) s.length s
    rw [lead_chunks] at this
    simp only [List.length_append] at this
    omega
  induction post with
  | nil =>
    intro pre h ho
    have hp : pre.length = xs.length := by subst h; simp
    have htl := tr_len pre ho
    have c2 : (⟨#[13, 10]⟩ : ByteArray) = toBA [13, 10] := rfl
    refine Ev.step' ?_
    simp only [crossroadlaw03_BodyTrailers.l0, if_neg (show ¬ (pre.length : Int) < (xs.length : Int) by omega), toBA_size, c2, toBA_append, List.length_append, List.length_cons, List.length_nil]
    simp only [if_pos (show (lead s.length 7 s).length + (tr pre).length + 2 ≤ 9223372036854775807 by omega), if_pos (show (lead s.length 7 s).length + (tr pre).length + (0 + 1 + 1) + more.length ≤ 9223372036854775807 by omega)]
    refine Ev.bind (lawFeed_f (-1) (lead s.length 7 s ++ tr pre ++ [13, 10] ++ more) (by simp; omega)) ?_
    have e : lead s.length 7 s ++ tr pre ++ [13, 10] ++ more = lead s.length 7 s ++ (tr pre ++ 13 :: 10 :: more) := by simp
    have hd : strOfNums (nts ([] ++ s)) = toBA s := strOfNums_nats _
    rw [newB_chunks, e, lead_run 7 (by omega) (by omega) _ s.length s [] (Nat.le_refl _) (by simp; omega), tr_run _ _ _ ho, end_run]
    simp only [body_Body_Status.f, body_Body_Done.f, body_Body_Data.f, Option.bind_some, lnB, if_true, hd]
    exact Ev.const (by simp; omega)
  | cons x r ih =>
    intro pre h ho
    have hp : pre.length < xs.length := by subst h; simp
    have htl := tr_len pre ho
    have hr : rdOf ByteArray.empty (xs.map toBA) (pre.length : Int) = toBA x := by subst h; simp [rdOf]
    refine Ev.step' ?_
    simp only [crossroadlaw03_BodyTrailers.l0, if_pos (show (pre.length : Int) < (xs.length : Int) by omega), if_pos (show (0 : Int) ≤ (pre.length : Int) by omega), List.length_map, hr, toBA_toList, toBA_size]
    by_cases hx : x = []
    · simp only [if_pos hx]; exact trail_out _ _ _ _ _ _ _
    · simp only [if_neg hx]
      by_cases h1 : x.length > 100
      · simp only [decide_eq_true (show (x.length : Int) > 100 by omega)]; exact trail_out _ _ _ _ _ _ _
      · simp only [decide_eq_false (show ¬ (x.length : Int) > 100 by omega)]
        refine Ev.step' ?_
        simp only [crossroadlaw03_BodyTrailers.j2, Bool.false_eq_true, if_false, toBA_size]
        refine trail_l1 s more _ x (xs.map toBA) (xs.length : Int) (pre.length : Int) (by omega) (by omega) (by omega) (by simp only [List.length_append]; omega) (fun hc => ?_) x [] rfl (fun y hy => by cases hy)
        have key := ih (pre ++ [x]) (by simp [h]) (fun y hy => by
          rcases List.mem_append.1 hy with hy | hy
          · exact ho y hy
          · rw [List.mem_singleton.1 hy]; exact ⟨hc, hx, by omega⟩)
        rw [tr_snoc, ← List.append_assoc] at key
        simpa using key
theorem trail_j (s : ByteArray) (xs : List ByteArray) (more : ByteArray) : Ev (fun k => crossroadlaw03_BodyTrailers.j0 k s xs more true) true := by
  refine Ev.step' ?_
  simp only [crossroadlaw03_BodyTrailers.j0, if_true]
  exact Ev.now true
theorem exBAs (l : List ByteArray) : ∃ xs : List (List UInt8), l = xs.map toBA := ⟨l.map fun s => s.data.toList, by
  rw [List.map_map]
  conv => lhs; rw [← List.map_id l]
  exact List.map_congr_left fun s _ => (toBA_data s).symm⟩
theorem BodyTrailers (a0 : ByteArray) (l1 : List ByteArray) (a2 : ByteArray) (_ : a0.size ≤ 140737488351232) (hz : l1.length * Try.prog.bytesOf 9 ≤ 140737488351232 ∧ ∀ x ∈ l1, x.size ≤ 140737488351232) (_ : a2.size ≤ 140737488351232) : ∃ k, crossroadlaw03_BodyTrailers.f k a0 l1 a2 = some true := by
  obtain ⟨s, rfl⟩ := exBA a0
  obtain ⟨more, rfl⟩ := exBA a2
  obtain ⟨xs, rfl⟩ := exBAs l1
  refine Ev.rounds (g := fun k => crossroadlaw03_BodyTrailers.f k (toBA s) (xs.map toBA) (toBA more)) ?_
  simp only [crossroadlaw03_BodyTrailers.f, toBA_size, List.length_map]
  refine Ev.bind fit_f ?_
  simp only [if_true]
  by_cases h3 : s.length > 500
  · simp only [if_pos (show (s.length : Int) > 500 by omega)]; exact trail_j _ _ _
  · simp only [if_neg (show ¬ (s.length : Int) > 500 by omega)]
    by_cases h10 : xs.length > 10
    · simp only [if_pos (show (xs.length : Int) > 10 by omega)]; exact trail_j _ _ _
    · simp only [if_neg (show ¬ (xs.length : Int) > 10 by omega)]
      by_cases h4 : more.length > 100
      · simp only [decide_eq_true (show (more.length : Int) > 100 by omega)]; exact trail_j _ _ _
      · simp only [decide_eq_false (show ¬ (more.length : Int) > 100 by omega)]
        have hl := chunks_len 7 (by omega) (by omega) s.length s
        have e : chunksF s.length 7 s = lead s.length 7 s ++ [13, 10] := lead_chunks _ _ _
        have e1 : (chunksF s.length 7 s).length = (lead s.length 7 s).length + 2 := by rw [e]; simp
        have hw : wrap64 (((chunksF s.length 7 s).length : Int) - 2) = ((lead s.length 7 s).length : Int) := by rw [w64 (by omega) (by omega)]; omega
        have et : ((chunksF s.length 7 s).drop 0).take ((lead s.length 7 s).length - 0) = lead s.length 7 s := by rw [e]; simp
        refine Ev.step' ?_
        simp only [crossroadlaw03_BodyTrailers.j0, Bool.false_eq_true, if_false]
        refine Ev.bind (chunks_f 7 7 rfl (by omega) (by omega) s (by omega)) ?_
        simp only [toBA_size, hw, if_pos (show (0 : Int) ≤ ((lead s.length 7 s).length : Int) by omega), if_pos (show ((lead s.length 7 s).length : Int) ≤ ((chunksF s.length 7 s).length : Int) by omega), toBA_extract, Int.toNat_natCast, et, List.length_map]
        have key := trail_l0 s more (by omega) (by omega) xs (by omega) xs [] rfl (fun x hx => by cases hx)
        rw [show tr [] = [] from rfl, List.append_nil] at key
        exact key
end Go.Proofs.Ytkdmjkoojipofaa.Pure
