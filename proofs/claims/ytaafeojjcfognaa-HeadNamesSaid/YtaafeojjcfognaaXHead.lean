/- head.Parse as it is printed comes to parseL. -/
import Derived.Test.YtaafeojjcfognaaXHeadM
import Derived.Test.YtaafeojjcfognaaX10
import Derived.Test.YtaafeojjcfognaaX11
import Derived.Test.YtaafeojjcfognaaX14
import Derived.Test.YtaafeojjcfognaaX15
set_option linter.unusedVariables false
set_option linter.unusedSimpArgs false
namespace Go.Proofs.Ytaafeojjcfognaa.M
open Go.RowKit Go.Proofs.YtaafeojjcfognaaW.PrintWords Go.Proofs.Ytaafeojjcfognaa.X

def fT (f : FldM) : S27 := ⟨toBA f.1, toBA f.2⟩
abbrev HT := ByteArray × ByteArray × (List (S27)) × ByteArray × Bool × Int × Int
def hT (h : HeadR) : HT := (toBA h.m, toBA h.t, h.fs.map fT, toBA [], h.close, h.len, h.st)
theorem bad_f (st : Int) : head_bad.f st = some (hT (badL st)) := rfl

/-! ### a line -/
theorem field_l0 (l : List UInt8) (hl : l.length ≤ 100000) (rest : List UInt8) : ∀ pre : List UInt8, l = pre ++ rest →
    Ev (fun k => head_field.l0 k (toBA l) (l.length : Int) (pre.length : Int)) (match splitC rest with
      | none => (toBA [], toBA [], false)
      | some (a, b) => (toBA (lowerL (pre ++ a)), toBA (trimL b), tokenL (pre ++ a) && valueL (trimL b))) := by
  induction rest with
  | nil =>
    intro pre h
    have hp : pre.length = l.length := by subst h; simp
    refine Ev.step' ?_
    simp only [head_field.l0, if_neg (show ¬ (pre.length : Int) < (l.length : Int) by omega), splitC]
    exact Ev.now _
  | cons c r ih =>
    intro pre h
    have hp : pre.length < l.length := by subst h; simp
    have hpl : l.length = pre.length + 1 + r.length := by subst h; simp; omega
    have hb : bt (toBA l) (pre.length : Int) = (c.toNat : Int) := by rw [h]; exact bt_mid _ _ _
    have hw : wrap64 ((pre.length : Int) + 1) = (pre.length : Int) + 1 := w64 (by omega) (by omega)
    refine Ev.step' ?_
    simp only [head_field.l0, if_pos (show (pre.length : Int) < (l.length : Int) by omega), toBA_size, if_pos (show (0 : Int) ≤ (pre.length : Int) by omega), hb, hw, splitC]
    by_cases hc : c.toNat = 58
    · have x1 : (toBA l).extract 0 (pre.length : Int).toNat = toBA pre := by rw [h, toBA_extract]; simp
      have x2 : (toBA l).extract ((pre.length : Int) + 1).toNat l.length = toBA r := by
        rw [toBA_extract, h, show ((pre.length : Int) + 1).toNat = pre.length + 1 by omega]
        congr 1
        rw [← List.drop_drop, List.drop_left, List.drop_succ_cons, List.drop_zero, List.take_of_length_le (by simp; omega)]
      simp only [if_pos (show (c.toNat : Int) = 58 by omega), if_pos hc, if_pos (show (pre.length : Int) ≤ (l.length : Int) by omega), x1, x2, lower_f pre (by omega), Option.bind_some, if_pos (show (0 : Int) ≤ (pre.length : Int) + 1 by omega), if_pos (show (pre.length : Int) + 1 ≤ (l.length : Int) by omega), List.append_nil]
      refine Ev.bind (trim_f r (by omega)) ?_
      refine Ev.bind (token_f pre (by omega)) ?_
      cases tokenL pre with
      | true => simp only [if_true, value_f, Option.bind_some, Bool.true_and]; exact Ev.now _
      | false => simp only [Bool.false_eq_true, if_false, Bool.false_and]; exact Ev.now _
    · have := ih (pre ++ [c]) (by simp [h])
      rw [show ((pre ++ [c]).length : Int) = (pre.length : Int) + 1 by simp] at this
      simp only [if_neg (show ¬ (c.toNat : Int) = 58 by omega), if_neg hc]
      cases hs : splitC r with
      | none => simpa [hs] using this
      | some p => simpa [hs] using this
theorem field_f (l : List UInt8) (hl : l.length ≤ 100000) : Ev (fun k => head_field.f k (toBA l)) (toBA (fieldL l).1.1, toBA (fieldL l).1.2, (fieldL l).2) := by
  have := field_l0 l hl l [] rfl
  simp only [head_field.f, toBA_size, fieldL]
  cases hs : splitC l with
  | none => simpa [hs] using this
  | some p => simpa [hs] using this

/-! ### the values of a name -/
theorem all_l0 (name : List UInt8) (fs : List FldM) (hn : fs.length ≤ 100000) (post : List FldM) : ∀ (pre : List FldM) (acc : List ByteArray), fs = pre ++ post → acc.length ≤ pre.length →
    Ev (fun k => head_All.l0 k (toBA name) acc (fs.map fT) (fs.length : Int) (pre.length : Int)) (acc ++ (allL name post).map toBA) := by
  induction post with
  | nil =>
    intro pre acc h ha
    have hp : pre.length = fs.length := by subst h; simp
    refine Ev.step' ?_
    simp only [head_All.l0, if_neg (show ¬ (pre.length : Int) < (fs.length : Int) by omega)]
    simpa [allL] using Ev.now acc
  | cons f r ih =>
    intro pre acc h ha
    have hp : pre.length < fs.length := by subst h; simp
    have hr : rd_T27 (fs.map fT) (pre.length : Int) = fT f := by rw [h]; simp [rd_T27]
    have hw : wrap64 ((pre.length : Int) + 1) = ((pre ++ [f]).length : Int) := by rw [w64 (by omega) (by omega)]; simp
    refine Ev.step' ?_
    simp only [head_All.l0, if_pos (show (pre.length : Int) < (fs.length : Int) by omega), if_pos (show (0 : Int) ≤ (pre.length : Int) by omega), List.length_map, hr, hw, fT, toBA_toList, if_pos (show acc.length < 8796093022208 by omega)]
    by_cases hf : f.1 = name
    · have := ih (pre ++ [f]) (acc ++ [toBA f.2]) (by simp [h]) (by simp; omega)
      simp only [if_pos hf]
      simpa [allL, hf, fT] using this
    · have := ih (pre ++ [f]) acc (by simp [h]) (by simp; omega)
      simp only [if_neg hf]
      simpa [allL, hf, fT] using this
theorem all_f (name : List UInt8) (fs : List FldM) (hn : fs.length ≤ 100000) : Ev (fun k => head_All.f k (fs.map fT) (toBA name)) ((allL name fs).map toBA) := by
  have := all_l0 name fs hn fs [] [] rfl (by simp)
  simpa [head_All.f] using this

/-! ### how the body comes -/
theorem words_len_le (b : Int) (l : List UInt8) : ∀ cur, ∀ w ∈ wordsGo b cur l, w.length ≤ cur.length + l.length := by
  induction l with
  | nil => intro cur w hw; simp only [wordsGo, List.mem_singleton] at hw; subst hw; simp
  | cons c r ih =>
    intro cur w hw
    simp only [wordsGo] at hw
    split at hw
    · rcases List.mem_cons.1 hw with rfl | hw
      · simp
      · have := ih [] w hw; simp at this ⊢; omega
    · have := ih (cur ++ [c]) w hw; simp at this ⊢; omega
section
variable (ls cs : List (List UInt8)) (a b : ByteArray) (fs : List (S27)) (d : ByteArray)
/-- the end: lengths, codings. -/
def endL (ls cs : List (List UInt8)) (a b : ByteArray) (fs : List (S27)) (d : ByteArray) (close : Bool) : HT :=
  pickG (fun i => hT (badL i)) (fun n => (a, b, fs, d, close, n, 0)) ls cs
theorem frame_end (hls : ls.length ≤ 1) (hl : ∀ v ∈ ls, v.length ≤ 100000) (hc : ∀ v ∈ cs, v.length ≤ 100000) (close : Bool) :
    Ev (fun k => if ((cs.map toBA).length : Int) > 1 then head_Head_frame.j3 k (ls.map toBA) (cs.map toBA) true a b fs d close 0 0 else if ((cs.map toBA).length : Int) = 1 then (if 0 < ((cs.map toBA).length : Int) then ((ascii_Lower.f (rdOf ByteArray.empty (cs.map toBA) 0)).bind fun t => head_Head_frame.j3 k (ls.map toBA) (cs.map toBA) (t.toList != ([99, 104, 117, 110, 107, 101, 100] : List UInt8)) a b fs d close 0 0) else none) else head_Head_frame.j3 k (ls.map toBA) (cs.map toBA) false a b fs d close 0 0)
      (endL ls cs a b fs d close) := by
  match cs, hc with
  | [], _ =>
    simp only [List.map_nil, List.length_nil]
    have e : endL ls [] a b fs d close = (match ls with
      | [v] => if (numL 10 v).2 = true then (if (numL 10 v).1 > 600 then hT (badL 413) else (a, b, fs, d, close, (numL 10 v).1, 0)) else hT (badL 400)
      | _ => (a, b, fs, d, close, 0, 0)) := by
      match ls, hls with
      | [], _ => rfl
      | [v], _ => rfl
      | _ :: _ :: _, h => simp at h
    rw [e]
    simp only [if_neg (show ¬ ((0 : Nat) : Int) > 1 by omega), if_neg (show ¬ ((0 : Nat) : Int) = 1 by omega)]
    refine Ev.step' ?_
    simp only [head_Head_frame.j3, Bool.false_eq_true, if_false, List.length_nil, if_neg (show ¬ ((0 : Nat) : Int) = 1 by omega)]
    match ls, hls, hl with
    | [], _, _ =>
      simp only [List.map_nil, List.length_nil, if_neg (show ¬ ((0 : Nat) : Int) = 1 by omega)]
      exact Ev.now _
    | [v], _, hl =>
      have hr : rdOf ByteArray.empty [toBA v] 0 = toBA v := rfl
      simp only [List.map_cons, List.map_nil, List.length_singleton, if_pos (show ((1 : Nat) : Int) = 1 by omega), if_pos (show (0 : Int) < ((1 : Nat) : Int) by omega), hr]
      refine Ev.bind (number_f 10 (.inl rfl) v (by have := hl v (by simp); omega)) ?_
      cases (numL 10 v).2 with
      | false => simp only [Bool.false_eq_true, if_false, bad_f, Option.bind_some]; exact Ev.now _
      | true =>
        simp only [if_true]
        by_cases h6 : (numL 10 v).1 > 600
        · simp only [if_pos h6, bad_f, Option.bind_some]; exact Ev.now _
        · simp only [if_neg h6]; exact Ev.now _
    | _ :: _ :: _, h, _ => simp at h
  | [c], hc =>
    have hr : rdOf ByteArray.empty [toBA c] 0 = toBA c := rfl
    simp only [List.map_cons, List.map_nil, List.length_singleton, if_neg (show ¬ ((1 : Nat) : Int) > 1 by omega), if_pos (show ((1 : Nat) : Int) = 1 by omega), if_pos (show (0 : Int) < ((1 : Nat) : Int) by omega), hr, lower_f c (by have := hc c (by simp); omega), Option.bind_some, toBA_toList]
    refine Ev.step' ?_
    simp only [head_Head_frame.j3, List.length_singleton, if_pos (show ((1 : Nat) : Int) = 1 by omega), endL, pickG, notDone]
    by_cases h : lowerL c = sChunk
    · have e : (lowerL c != ([99, 104, 117, 110, 107, 101, 100] : List UInt8)) = false := by rw [h]; rfl
      simp only [e, Bool.false_eq_true, if_false, h, ne_eq, not_true_eq_false, decide_false]
      exact Ev.now _
    · have e : (lowerL c != ([99, 104, 117, 110, 107, 101, 100] : List UInt8)) = true := bne_iff_ne.2 h
      simp only [e, if_true, ne_eq, h, not_false_eq_true, decide_true, bad_f, Option.bind_some]
      exact Ev.now _
  | c :: c' :: r, _ =>
    have h2 : (((c :: c' :: r).map toBA).length : Int) > 1 := by simp; omega
    simp only [if_pos h2]
    refine Ev.step' ?_
    simp only [head_Head_frame.j3, if_true, bad_f, Option.bind_some, endL, pickG, notDone]
    exact Ev.now _
end
theorem frame_l1 (vs : List (List UInt8)) (x48 : Int) (ls cs : List ByteArray) (a b : ByteArray) (fs : List (S27)) (d : ByteArray) (R : HT) (ws : List (List UInt8)) (hw : ws.length ≤ 100001) (hwl : ∀ w ∈ ws, w.length ≤ 100000) (post : List (List UInt8)) : ∀ (pre : List (List UInt8)) (close : Bool), ws = pre ++ post →
    Ev (fun k => head_Head_frame.l0 k ls cs (vs.map toBA) (vs.length : Int) (wrap64 (x48 + 1)) a b fs d (close || post.any isClose) 0 0) R →
    Ev (fun k => head_Head_frame.l1 k ls cs (vs.map toBA) (vs.length : Int) x48 (ws.map toBA) (ws.length : Int) (pre.length : Int) a b fs d close 0 0) R := by
  induction post with
  | nil =>
    intro pre close h hv
    have hp : pre.length = ws.length := by subst h; simp
    refine Ev.step' ?_
    simp only [head_Head_frame.l1, if_neg (show ¬ (pre.length : Int) < (ws.length : Int) by omega)]
    simpa using hv
  | cons w r ih =>
    intro pre close h hv
    have hp : pre.length < ws.length := by subst h; simp
    have hr : rdOf ByteArray.empty (ws.map toBA) (pre.length : Int) = toBA w := by rw [h]; simp [rdOf]
    have hwr : wrap64 ((pre.length : Int) + 1) = ((pre ++ [w]).length : Int) := by rw [w64 (by omega) (by omega)]; simp
    have hwlen := hwl w (by rw [h]; simp)
    have htl := trim_len w
    refine Ev.step' ?_
    simp only [head_Head_frame.l1, if_pos (show (pre.length : Int) < (ws.length : Int) by omega), if_pos (show (0 : Int) ≤ (pre.length : Int) by omega), List.length_map, hr, hwr]
    cases close with
    | true =>
      simp only [if_true]
      exact ih (pre ++ [w]) true (by simp [h]) (by simpa using hv)
    | false =>
      simp only [Bool.false_eq_true, if_false]
      refine Ev.bind (trim_f w (by omega)) ?_
      simp only [lower_f (trimL w) (by omega), Option.bind_some, toBA_toList]
      have e : (lowerL (trimL w) == ([99, 108, 111, 115, 101] : List UInt8)) = isClose w := by
        rw [Bool.eq_iff_iff, beq_iff_eq, isClose, decide_eq_true_iff]; exact Iff.rfl
      rw [e]
      exact ih (pre ++ [w]) (isClose w) (by simp [h]) (by simpa using hv)
theorem frame_l0 (vs : List (List UInt8)) (hvn : vs.length ≤ 100000) (hvl : ∀ v ∈ vs, v.length ≤ 100000) (ls cs : List (List UInt8)) (hls : ls.length ≤ 1) (hl : ∀ v ∈ ls, v.length ≤ 100000) (hc : ∀ v ∈ cs, v.length ≤ 100000) (a b : ByteArray) (fs : List (S27)) (d : ByteArray) (post : List (List UInt8)) : ∀ (pre : List (List UInt8)) (close : Bool), vs = pre ++ post →
    Ev (fun k => head_Head_frame.l0 k (ls.map toBA) (cs.map toBA) (vs.map toBA) (vs.length : Int) (pre.length : Int) a b fs d close 0 0) (endL ls cs a b fs d (close || post.any closeW)) := by
  induction post with
  | nil =>
    intro pre close h
    have hp : pre.length = vs.length := by subst h; simp
    refine Ev.step' ?_
    simp only [head_Head_frame.l0, if_neg (show ¬ (pre.length : Int) < (vs.length : Int) by omega), List.any_nil, Bool.or_false]
    exact frame_end ls cs a b fs d hls hl hc close
  | cons v r ih =>
    intro pre close h
    have hp : pre.length < vs.length := by subst h; simp
    have hr : rdOf ByteArray.empty (vs.map toBA) (pre.length : Int) = toBA v := by rw [h]; simp [rdOf]
    have hwr : wrap64 ((pre.length : Int) + 1) = ((pre ++ [v]).length : Int) := by rw [w64 (by omega) (by omega)]; simp
    have hvlen := hvl v (by rw [h]; simp)
    refine Ev.step' ?_
    simp only [head_Head_frame.l0, if_pos (show (pre.length : Int) < (vs.length : Int) by omega), if_pos (show (0 : Int) ≤ (pre.length : Int) by omega), List.length_map, hr]
    refine Ev.bind (words_f 44 v (by omega)) ?_
    have hwn := wordsGo_len 44 v []
    have hwl : ∀ w ∈ wordsL 44 v, w.length ≤ 100000 := fun w hw => by have := words_len_le 44 v [] w hw; simp at this; omega
    have key := frame_l1 vs (pre.length : Int) (ls.map toBA) (cs.map toBA) a b fs d (endL ls cs a b fs d (close || (v :: r).any closeW)) (wordsL 44 v) (by simp only [wordsL]; omega) hwl (wordsL 44 v) [] close rfl (by
      rw [hwr]
      have := ih (pre ++ [v]) (close || closeW v) (by simp [h])
      simpa [Bool.or_assoc, closeW] using this)
    simpa using key
theorem all_mem_len (name : List UInt8) (fs : List FldM) (h : ∀ f ∈ fs, f.2.length ≤ 100000) : ∀ v ∈ allL name fs, v.length ≤ 100000 := by
  intro v hv
  simp only [allL, List.mem_map, List.mem_filter] at hv
  obtain ⟨f, ⟨hf, _⟩, rfl⟩ := hv
  exact h f hf
theorem all_len (name : List UInt8) (fs : List FldM) : (allL name fs).length ≤ fs.length := by
  simp only [allL, List.length_map]
  exact List.length_filter_le _ _
theorem badFrame_iff (fs : List FldM) : badFrame fs = true ↔ (allL sHost fs).length ≠ 1 ∨ (allL sLen fs).length > 1 ∨ ((allL sLen fs).length > 0 ∧ (allL sCod fs).length > 0) := by
  simp only [badFrame, Bool.or_eq_true, Bool.and_eq_true, decide_eq_true_eq, or_assoc]
theorem badFrame_t (fs : List FldM) (h : (allL sHost fs).length ≠ 1 ∨ (allL sLen fs).length > 1 ∨ ((allL sLen fs).length > 0 ∧ (allL sCod fs).length > 0)) : badFrame fs = true := (badFrame_iff fs).2 h
theorem badFrame_f (fs : List FldM) (h1 : (allL sHost fs).length = 1) (h2 : (allL sLen fs).length ≤ 1) (h3 : (allL sLen fs).length = 0 ∨ (allL sCod fs).length = 0) : badFrame fs = false := by
  rw [Bool.eq_false_iff]
  intro h
  have := (badFrame_iff fs).1 h
  omega
theorem frame_f (m t : List UInt8) (fs : List FldM) (hn : fs.length ≤ 100000) (hfl : ∀ f ∈ fs, f.2.length ≤ 100000) :
    Ev (fun k => head_Head_frame.f k (toBA m) (toBA t) (fs.map fT) (toBA []) false 0 0) (hT (frameL m t fs)) := by
  have l1 := all_len sLen fs
  have l2 := all_len sCon fs
  simp only [head_Head_frame.f]
  refine Ev.bind (all_f sHost fs hn) ?_
  refine Ev.bind (all_f sLen fs hn) ?_
  refine Ev.bind (all_f sCod fs hn) ?_
  simp only [List.length_map]
  have bad : badFrame fs = true → Ev (fun k => head_Head_frame.j0 k ((allL sLen fs).map toBA) ((allL sCod fs).map toBA) true (toBA m) (toBA t) (fs.map fT) (toBA []) false 0 0) (hT (frameL m t fs)) := by
    intro h
    rw [frameL, if_pos h]
    refine Ev.step' ?_
    simp only [head_Head_frame.j0, if_true, bad_f, Option.bind_some]
    exact Ev.now _
  have good : badFrame fs = false → (allL sLen fs).length ≤ 1 → Ev (fun k => head_Head_frame.j0 k ((allL sLen fs).map toBA) ((allL sCod fs).map toBA) false (toBA m) (toBA t) (fs.map fT) (toBA []) false 0 0) (hT (frameL m t fs)) := by
    intro h hle
    refine Ev.step' ?_
    simp only [head_Head_frame.j0, Bool.false_eq_true, if_false]
    refine Ev.bind (all_f sCon fs hn) ?_
    have key := frame_l0 (allL sCon fs) (by omega) (all_mem_len sCon fs hfl) (allL sLen fs) (allL sCod fs) hle (all_mem_len sLen fs hfl) (all_mem_len sCod fs hfl) (toBA m) (toBA t) (fs.map fT) (toBA []) (allL sCon fs) [] false rfl
    have e : endL (allL sLen fs) (allL sCod fs) (toBA m) (toBA t) (fs.map fT) (toBA []) (false || (allL sCon fs).any closeW) = hT (frameL m t fs) := by
      rw [frameL, if_neg (by rw [h]; exact Bool.false_ne_true), pickG_map hT, endL, Bool.false_or]
      rfl
    rw [e] at key
    simpa using key
  by_cases h1 : (allL sHost fs).length = 1
  · simp only [if_pos (show ((allL sHost fs).length : Int) = 1 by omega)]
    by_cases h2 : (allL sLen fs).length > 1
    · simp only [if_pos (show ((allL sLen fs).length : Int) > 1 by omega)]
      exact bad (badFrame_t fs (.inr (.inl h2)))
    · simp only [if_neg (show ¬ ((allL sLen fs).length : Int) > 1 by omega)]
      by_cases h3 : (allL sLen fs).length > 0
      · simp only [if_pos (show ((allL sLen fs).length : Int) > 0 by omega)]
        by_cases h4 : (allL sCod fs).length > 0
        · simp only [decide_eq_true (show ((allL sCod fs).length : Int) > 0 by omega)]
          exact bad (badFrame_t fs (.inr (.inr ⟨h3, h4⟩)))
        · simp only [decide_eq_false (show ¬ ((allL sCod fs).length : Int) > 0 by omega)]
          exact good (badFrame_f fs h1 (by omega) (by omega)) (by omega)
      · simp only [if_neg (show ¬ ((allL sLen fs).length : Int) > 0 by omega)]
        exact good (badFrame_f fs h1 (by omega) (by omega)) (by omega)
  · simp only [if_neg (show ¬ ((allL sHost fs).length : Int) = 1 by omega)]
    exact bad (badFrame_t fs (.inl h1))

/-! ### a head -/
theorem splitC_len (l : List UInt8) : ∀ p, splitC l = some p → p.1.length ≤ l.length ∧ p.2.length ≤ l.length := by
  induction l with
  | nil => intro p h; cases h
  | cons c r ih =>
    intro p h
    simp only [splitC] at h
    split at h
    · injection h with h; subst h; simp
    · obtain ⟨q, hq, rfl⟩ := Option.map_eq_some_iff.1 h
      have := ih q hq
      simp; omega
theorem fieldL_len (l : List UInt8) : (fieldL l).1.1.length ≤ l.length ∧ (fieldL l).1.2.length ≤ l.length := by
  unfold fieldL
  cases hs : splitC l with
  | none => simp
  | some p =>
    have := splitC_len l p hs
    have := trim_len p.2
    simp [lowerL_length]; omega
theorem parse_l0 (m t : List UInt8) (ls : List (List UInt8)) (hn : ls.length ≤ 100000) (hl : ∀ l ∈ ls, l.length ≤ 100000) (post : List (List UInt8)) : ∀ (pre : List (List UInt8)) (acc : List FldM), ls = pre ++ post → acc.length = pre.length → (∀ f ∈ acc, f.2.length ≤ 100000) →
    Ev (fun k => head_Parse.l0 k (ls.map toBA) (ls.length : Int) (pre.length : Int) (toBA m) (toBA t) (acc.map fT) (toBA []) false 0 0) (hT (match fieldsL post with
      | none => badL 400
      | some fs => frameL m t (acc ++ fs))) := by
  induction post with
  | nil =>
    intro pre acc h ha hal
    have hp : pre.length = ls.length := by subst h; simp
    refine Ev.step' ?_
    simp only [head_Parse.l0, if_neg (show ¬ (pre.length : Int) < (ls.length : Int) by omega), fieldsL, List.append_nil]
    refine Ev.bind (frame_f m t acc (by omega) hal) ?_
    exact Ev.now _
  | cons l r ih =>
    intro pre acc h ha hal
    have hp : pre.length < ls.length := by subst h; simp
    have hr : rdOf ByteArray.empty (ls.map toBA) (pre.length : Int) = toBA l := by rw [h]; simp [rdOf]
    have hwr : wrap64 ((pre.length : Int) + 1) = ((pre ++ [l]).length : Int) := by rw [w64 (by omega) (by omega)]; simp
    have hll := hl l (by rw [h]; simp)
    refine Ev.step' ?_
    simp only [head_Parse.l0, if_pos (show (pre.length : Int) < (ls.length : Int) by omega), if_pos (show (0 : Int) ≤ (pre.length : Int) by omega), List.length_map, hr, hwr]
    refine Ev.bind (field_f l hll) ?_
    simp only [fieldsL]
    cases hf : (fieldL l).2 with
    | false =>
      simp only [Bool.false_eq_true, if_false, bad_f, Option.bind_some]
      exact Ev.now _
    | true =>
      simp only [if_true, if_pos (show acc.length < 4398046511104 by omega)]
      have hfl := fieldL_len l
      have := ih (pre ++ [l]) (acc ++ [(fieldL l).1]) (by simp [h]) (by simp [ha]) (by
        intro f hf
        rcases List.mem_append.1 hf with hf | hf
        · exact hal f hf
        · rw [List.mem_singleton.1 hf]; omega)
      cases hq : fieldsL r with
      | none => simpa [hq, fT] using this
      | some fs => simpa [hq, fT] using this
theorem parse_f (ls : List (List UInt8)) (hn : ls.length ≤ 100000) (hl : ∀ l ∈ ls, l.length ≤ 100000) : Ev (fun k => head_Parse.f k (ls.map toBA)) (hT (parseL ls)) := by
  simp only [head_Parse.f, List.length_map]
  cases ls with
  | nil =>
    simp only [List.length_nil, if_pos (show ((0 : Nat) : Int) = 0 by omega), bad_f, Option.bind_some, parseL]
    exact Ev.now _
  | cons first rest =>
    have hlen : (first :: rest).length = rest.length + 1 := rfl
    have hr0 : rdOf ByteArray.empty ((first :: rest).map toBA) 0 = toBA first := rfl
    have hfl := hl first (by simp)
    have hw : wrap64 (((first :: rest).length : Int) - 1) = (rest.length : Int) := by rw [w64 (by omega) (by omega)]; omega
    simp only [if_neg (show ¬ ((first :: rest).length : Int) = 0 by omega), if_pos (show (0 : Int) < ((first :: rest).length : Int) by omega), hr0, toBA_size, hw]
    refine Ev.bind (words_f 32 first (by omega)) ?_
    have long : first.length > 200 ∨ rest.length > 16 → Ev (fun k => head_Parse.j0 k ((first :: rest).map toBA) ((wordsL 32 first).map toBA) true) (hT (parseL (first :: rest))) := by
      intro h
      rw [parseL, if_pos h]
      refine Ev.step' ?_
      simp only [head_Parse.j0, if_true, bad_f, Option.bind_some]
      exact Ev.now _
    have short : ¬ (first.length > 200 ∨ rest.length > 16) → Ev (fun k => head_Parse.j0 k ((first :: rest).map toBA) ((wordsL 32 first).map toBA) false) (hT (parseL (first :: rest))) := by
      intro h
      rw [parseL, if_neg h]
      have hwl := words_len_le 32 first []
      refine Ev.step' ?_
      simp only [head_Parse.j0, Bool.false_eq_true, if_false, List.length_map]
      have no : Ev (fun k => head_Parse.j1 k ((first :: rest).map toBA) ((wordsL 32 first).map toBA) true) (hT (badL 400)) := by
        refine Ev.step' ?_
        simp only [head_Parse.j1, if_true, bad_f, Option.bind_some]
        exact Ev.now _
      rw [show wordsL 32 first = wordsGo 32 [] first from rfl] at *
      generalize wordsGo 32 [] first = ws at *
      match ws, hwl, no with
      | [], _, no => simpa using no
      | [_], _, no => simpa using no
      | [_, _], _, no => simpa using no
      | [m, t, v], hwl, no =>
        have hm := hwl m (by simp)
        have ht := hwl t (by simp)
        have r0 : rdOf ByteArray.empty ([m, t, v].map toBA) 0 = toBA m := rfl
        have r1 : rdOf ByteArray.empty ([m, t, v].map toBA) 1 = toBA t := rfl
        have r2 : rdOf ByteArray.empty ([m, t, v].map toBA) 2 = toBA v := rfl
        have l3 : ([m, t, v] : List (List UInt8)).length = 3 := rfl
        simp only [l3, if_pos (show ((3 : Nat) : Int) = 3 by omega), if_pos (show (0 : Int) < ((3 : Nat) : Int) by omega), if_pos (show (1 : Int) < ((3 : Nat) : Int) by omega), r0, r1]
        simp only [List.length_nil] at hm ht
        refine Ev.bind (token_f m (by omega)) ?_
        cases hmt : tokenL m with
        | false => simpa [firstL, hmt] using no
        | true =>
          simp only [if_true, toBA_toList, toBA_size]
          cases t with
          | nil => simpa [firstL, slash1] using no
          | cons c t' =>
            have hb : bt (toBA (c :: t')) 0 = (c.toNat : Int) := bt_mid [] t' c
            simp only [if_neg (show ¬ (c :: t') = ([] : List UInt8) by simp), if_pos (show (0 : Int) < ((c :: t').length : Int) by simp only [List.length_cons]; omega), hb]
            by_cases hc : c.toNat = 47
            · simp only [if_pos (show (c.toNat : Int) = 47 by omega), value_f, Option.bind_some]
              cases hv : valueL (c :: t') with
              | false => simpa [firstL, hv] using no
              | true =>
                have e : firstL m (c :: t') = true := by simp [firstL, hmt, slash1, hc, hv]
                simp only [e, if_true, Bool.not_true]
                refine Ev.step' ?_
                simp only [head_Parse.j1, Bool.false_eq_true, if_false, List.length_map, l3, if_pos (show (2 : Int) < ((3 : Nat) : Int) by omega), if_pos (show (0 : Int) < ((3 : Nat) : Int) by omega), if_pos (show (1 : Int) < ((3 : Nat) : Int) by omega), r0, r1, r2, toBA_toList]
                by_cases hver : v = sVer
                · have d : ((first :: rest).map toBA).drop 1 = rest.map toBA := rfl
                  simp only [if_pos (show v = ([72, 84, 84, 80, 47, 49, 46, 49] : List UInt8) from hver), if_pos hver, if_pos (show (1 : Int) ≤ ((first :: rest).length : Int) by omega), d, Option.bind_some, List.length_map]
                  have := parse_l0 m (c :: t') rest (by omega) (fun l h => hl l (by simp [h])) rest [] [] rfl rfl (by simp)
                  exact this
                · simp only [if_neg (show ¬ v = ([72, 84, 84, 80, 47, 49, 46, 49] : List UInt8) from hver), if_neg hver, bad_f, Option.bind_some]
                  exact Ev.now _
            · simpa [firstL, slash1, hc, show ¬ (c.toNat : Int) = 47 by omega] using no
      | a :: b :: c :: d :: e, _, no =>
        simp only [if_neg (show ¬ ((a :: b :: c :: d :: e).length : Int) = 3 by simp only [List.length_cons]; omega)]
        exact no
    by_cases h1 : first.length > 200
    · simp only [if_pos (show (first.length : Int) > 200 by omega)]
      exact long (.inl h1)
    · simp only [if_neg (show ¬ (first.length : Int) > 200 by omega)]
      by_cases h2 : rest.length > 16
      · simp only [decide_eq_true (show (rest.length : Int) > 16 by omega)]
        exact long (.inr h2)
      · simp only [decide_eq_false (show ¬ (rest.length : Int) > 16 by omega)]
        exact short (by omega)
end Go.Proofs.Ytaafeojjcfognaa.M
