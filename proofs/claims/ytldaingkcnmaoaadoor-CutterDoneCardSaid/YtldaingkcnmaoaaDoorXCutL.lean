-- Made smaller by wip/squeeze.py out of this claim's texts. Not trusted: Lean checks it.
import Derived.Test.YtldaingkcnmaoaaDoorXCutP
set_option linter.unusedVariables false
set_option linter.unusedSimpArgs false
namespace Go.Proofs.YtldaingkcnmaoaaDoor.M
open Go.RowKit Go.Proofs.YtldaingkcnmaoaaDoorW.PrintWords Go.Proofs.YtldaingkcnmaoaaDoor.X
def hs (c : CutS) (ls : List ByteArray) (cur : List UInt8) (sz : Int) : CutS := { c with wait := eB, lines := ls, line := cur, size := sz, body := none, status := 0, done := false }
theorem new_hs : newC = hs newC [] [] 0 := rfl
theorem hs_live (c : CutS) (ls : List ByteArray) (cur : List UInt8) (sz : Int) : ¬ (hs c ls cur sz).done = true := by simp [hs]
theorem step_hs (c : CutS) (ls : List ByteArray) (cur : List UInt8) (sz : Int) (x : UInt8) : stepL (hs c ls cur sz) x = byteL (hs c ls cur sz) x := rfl
theorem norm_hs (c : CutS) (ls : List ByteArray) (cur : List UInt8) (sz : Int) (out : List Rq) : normM (hs c ls cur sz) out = (hs c ls cur sz, out) := rfl
theorem norm_fail (c : CutS) (s : Int) (out : List Rq) : normM (failC c s) out = (failC c s, out) := by rw [normM, if_pos (show (failC c s).done = true from rfl)]
theorem run_hs (c : CutS) (ls : List ByteArray) (cur : List UInt8) (sz : Int) (x : UInt8) (r : List UInt8) (out : List Rq) : runM (x :: r) (hs c ls cur sz) out = runM r (normM (byteL (hs c ls cur sz) x) out).1 (normM (byteL (hs c ls cur sz) x) out).2 := by
  rw [runM, if_neg (hs_live c ls cur sz), step_hs]
theorem crAt_clean (cur : List UInt8) (x : UInt8) (h : Clean cur) : crAt (cur ++ [x]) = false := by rw [crAt_snoc]; exact clean_last h
theorem crAt_cr (cur : List UInt8) (x : UInt8) : crAt ((cur ++ [13]) ++ [x]) = true := by rw [crAt_snoc]; simp
theorem hs_step (c : CutS) (ls : List ByteArray) (cur : List UInt8) (sz : Int) (x : UInt8) (h : ¬ sz + 1 > 1000) (hx : x.toNat ≠ 10) (hc : Clean cur) : byteL (hs c ls cur sz) x = hs c ls (cur ++ [x]) (sz + 1) := by
  unfold byteL
  rw [if_neg (show ¬ (hs c ls cur sz).size + 1 > 1000 from h), if_pos hx, if_neg (show ¬ crAt ((hs c ls cur sz).line ++ [x]) = true by rw [show (hs c ls cur sz).line = cur from rfl, crAt_clean cur x hc]; decide)]
  rfl
theorem hs_end (c : CutS) (ls : List ByteArray) (cur : List UInt8) (sz : Int) (h : ¬ sz + 1 > 1000) (h0 : cur ≠ []) : byteL (hs c ls (cur ++ [13]) sz) 10 = hs c (ls ++ [toBA cur]) [] (sz + 1) := by
  unfold byteL
  have hl : (hs c ls (cur ++ [13]) sz).line = cur ++ [13] := rfl
  have h1 : cur.length ≠ 0 := fun e => h0 (List.eq_nil_of_length_eq_zero e)
  rw [if_neg (show ¬ (hs c ls (cur ++ [13]) sz).size + 1 > 1000 from h), if_neg (by decide), if_neg (by rw [hl, crAt_cr]; decide), if_neg (by rw [hl]; simp; omega)]
  have e : (((cur ++ [13]) ++ [10]).take ((cur ++ [13]).length - 1)) = cur := by simp
  show ({ hs c ls (cur ++ [13]) sz with size := sz + 1, lines := ls ++ [toBA (((cur ++ [13]) ++ [10]).take ((cur ++ [13]).length - 1))], line := [] } : CutS) = _
  rw [e]
  rfl
def heads (c : CutS) (ls : List ByteArray) (sz : Int) : CutS := if (parseT ls).2.2.2.2.2.2 = 0 then { hdC (hs c ls [] sz) (parseT ls) with body := some (newB (parseT ls).2.2.2.2.2.1) } else failC (hdC (hs c ls [] sz) (parseT ls)) (parseT ls).2.2.2.2.2.2
theorem hs_parse (c : CutS) (ls : List ByteArray) (sz : Int) (h : ¬ sz + 1 > 1000) (h0 : ls ≠ []) : byteL (hs c ls [13] sz) 10 = heads c ls (sz + 1) := by
  unfold byteL
  have h1 : ls.length ≠ 0 := fun e => h0 (List.eq_nil_of_length_eq_zero e)
  rw [if_neg (show ¬ (hs c ls [13] sz).size + 1 > 1000 from h), if_neg (by decide), if_neg (show ¬ crAt ((hs c ls [13] sz).line ++ [10]) = false from (by decide : ¬ crAt [13, 10] = false)), if_pos (show (hs c ls [13] sz).line.length = 1 from rfl), if_neg (show ¬ (hs c ls [13] sz).lines.length = 0 from h1)]
  rfl
theorem run_word (c : CutS) (ls : List ByteArray) (rest : List UInt8) (out : List Rq) (w : List UInt8) : ∀ (cur : List UInt8) (sz : Int), Clean cur → Clean w → sz + w.length ≤ 1000 → runM (w ++ rest) (hs c ls cur sz) out = runM rest (hs c ls (cur ++ w) (sz + w.length)) out := by
  induction w with
  | nil => intro cur sz _ _ _; simp
  | cons x r ih =>
    intro cur sz h1 h2 hl
    simp only [List.length_cons] at hl
    have hx := h2 x (by simp)
    have hcur : Clean (cur ++ [x]) := fun y hy => by
      rcases List.mem_append.1 hy with hy | hy
      · exact h1 y hy
      · rw [List.mem_singleton.1 hy]; exact hx
    rw [List.cons_append, run_hs, hs_step c ls cur sz x (by omega) hx.2 h1, norm_hs, ih (cur ++ [x]) (sz + 1) hcur (fun y hy => h2 y (by simp [hy])) (by omega)]
    simp only [List.append_assoc, List.singleton_append, List.length_cons]
    congr 2
    omega
theorem clean_nil : Clean [] := fun _ h => by cases h
theorem run_line (c : CutS) (ls : List ByteArray) (rest : List UInt8) (out : List Rq) (w : List UInt8) (sz : Int) (hw : Clean w) (h0 : w ≠ []) (hl : sz + w.length + 2 ≤ 1000) : runM (w ++ 13 :: 10 :: rest) (hs c ls [] sz) out = runM rest (hs c (ls ++ [toBA w]) [] (sz + w.length + 2)) out := by
  rw [run_word c ls _ out w [] sz clean_nil hw (by omega), List.nil_append, run_hs, hs_step c ls w _ 13 (by omega) (by decide) hw, norm_hs, run_hs, hs_end c ls w _ (by omega) h0, norm_hs, show sz + (w.length : Int) + 1 + 1 = sz + w.length + 2 by omega]
theorem run_head (c : CutS) (ls : List ByteArray) (rest : List UInt8) (out : List Rq) (sz : Int) (h0 : ls ≠ []) (hl : sz + 2 ≤ 1000) : runM (13 :: 10 :: rest) (hs c ls [] sz) out = runM rest (normM (heads c ls (sz + 2)) out).1 (normM (heads c ls (sz + 2)) out).2 := by
  rw [run_hs, hs_step c ls [] sz 13 (by omega) (by decide) clean_nil, norm_hs, run_hs, List.nil_append, hs_parse c ls _ (by omega) h0]
  rw [show sz + 1 + 1 = sz + 2 by omega]
def textOf : List (List UInt8) → List UInt8
  | [] => []
  | w :: r => w ++ 13 :: 10 :: textOf r
def sizeOf' : List (List UInt8) → Int
  | [] => 0
  | w :: r => w.length + 2 + sizeOf' r
theorem sizeOf_nonneg (ws : List (List UInt8)) : 0 ≤ sizeOf' ws := by
  induction ws with
  | nil => exact Int.le_refl _
  | cons w r ih => simp only [sizeOf']; omega
theorem run_lines (c : CutS) (rest : List UInt8) (out : List Rq) (ws : List (List UInt8)) : ∀ (ls : List ByteArray) (sz : Int), (∀ w ∈ ws, Clean w ∧ w ≠ []) → sz + sizeOf' ws ≤ 1000 → runM (textOf ws ++ rest) (hs c ls [] sz) out = runM rest (hs c (ls ++ ws.map toBA) [] (sz + sizeOf' ws)) out := by
  induction ws with
  | nil => intro ls sz _ _; simp [textOf, sizeOf']
  | cons w r ih =>
    intro ls sz h hl
    simp only [sizeOf'] at hl
    have hn := sizeOf_nonneg r
    have e : textOf (w :: r) ++ rest = w ++ 13 :: 10 :: (textOf r ++ rest) := by simp [textOf]
    rw [e, run_line c ls _ out w sz (h w (by simp)).1 (h w (by simp)).2 (by omega), ih _ _ (fun w' hw' => h w' (by simp [hw'])) (by omega)]
    simp only [List.map_cons, List.append_assoc, List.singleton_append, sizeOf']
    congr 2
    omega
theorem run_text (c : CutS) (rest : List UInt8) (out : List Rq) (ws : List (List UInt8)) (h : ∀ w ∈ ws, Clean w ∧ w ≠ []) (h0 : ws ≠ []) (hl : sizeOf' ws + 2 ≤ 1000) : runM (textOf ws ++ 13 :: 10 :: rest) (hs c [] [] 0) out = runM rest (normM (heads c (ws.map toBA) (sizeOf' ws + 2)) out).1 (normM (heads c (ws.map toBA) (sizeOf' ws + 2)) out).2 := by
  have hn : ws.map toBA ≠ [] := by simpa using h0
  rw [run_lines c _ out ws [] 0 h (by omega), List.nil_append, run_head c _ rest out _ hn (by omega)]
  simp only [Int.zero_add]
theorem parseT_map (ws : List (List UInt8)) : parseT (ws.map toBA) = hT (parseL ws) := by
  unfold parseT
  rw [List.map_map]
  congr 2
  conv => rhs; rw [← List.map_id ws]
  exact List.map_congr_left (fun s _ => by simp)
def bs (c : CutS) (ls : List ByteArray) (sz : Int) (h : HeadR) (b : BodyS) : CutS := { hdC (hs c ls [] sz) (hT h) with body := some b }
theorem heads_ok (c : CutS) (ws : List (List UInt8)) (sz : Int) (h : (parseL ws).st = 0) : heads c (ws.map toBA) sz = bs c (ws.map toBA) sz (parseL ws) (newB (parseL ws).len) := by
  unfold heads
  rw [parseT_map, if_pos (show (hT (parseL ws)).2.2.2.2.2.2 = 0 from h)]
  rfl
theorem heads_bad (c : CutS) (ws : List (List UInt8)) (sz : Int) (h : (parseL ws).st ≠ 0) : heads c (ws.map toBA) sz = failC (hdC (hs c (ws.map toBA) [] sz) (hT (parseL ws))) (parseL ws).st := by
  unfold heads
  rw [parseT_map, if_neg (show ¬ (hT (parseL ws)).2.2.2.2.2.2 = 0 from h)]
  rfl
theorem norm_bs (c : CutS) (ls : List ByteArray) (sz : Int) (h : HeadR) (b : BodyS) (out : List Rq) (hb : b.done = false) : normM (bs c ls sz h b) out = (bs c ls sz h b, out) := by
  have e : pendB (bs c ls sz h b) = none := by
    unfold pendB
    show (if b.done = true then some b else none) = none
    rw [if_neg (by rw [hb]; decide)]
  rw [normM, if_neg (show ¬ (bs c ls sz h b).done = true by simp [bs, hdC, hs]), e]
def reqOf (h : HeadR) (d : List UInt8) : Rq := ⟨toBA h.m, toBA h.t, h.fs.map fT, toBA d, h.close⟩
theorem norm_end (c : CutS) (ls : List ByteArray) (sz : Int) (h : HeadR) (b : BodyS) (out : List Rq) (hb : b.done = true) (hst : b.status = 0) : normM (bs c ls sz h b) out = (endC (bs c ls sz h b), out ++ [reqOf h b.data]) := by
  have e : pendB (bs c ls sz h b) = some b := by
    unfold pendB
    show (if b.done = true then some b else none) = some b
    rw [if_pos hb]
  have e2 : endF (bs c ls sz h b) b = (reqOf h b.data, true, endC (bs c ls sz h b)) := by
    rw [endF, if_neg (by rw [hst]; decide)]
    have : reqC (bs c ls sz h b) b = reqOf h b.data := by
      show (⟨toBA h.m, toBA h.t, h.fs.map fT, strOfNums (nts b.data), h.close⟩ : Rq) = _
      rw [show strOfNums (nts b.data) = toBA b.data from strOfNums_nats _]
      rfl
    rw [this]
  rw [normM, if_neg (show ¬ (bs c ls sz h b).done = true by simp [bs, hdC, hs]), e]
  simp only [e2, if_true]
theorem endC_open (c : CutS) (ls : List ByteArray) (sz : Int) (h : HeadR) (b : BodyS) (hc : h.close = false) : endC (bs c ls sz h b) = hs (hdC c (hT h)) [] [] 0 := by
  rw [endC, if_neg (show ¬ (bs c ls sz h b).hc = true by show ¬ h.close = true; rw [hc]; decide)]
  rfl
theorem endC_close (c : CutS) (ls : List ByteArray) (sz : Int) (h : HeadR) (b : BodyS) (hc : h.close = true) : (endC (bs c ls sz h b)).done = true ∧ (endC (bs c ls sz h b)).status = 0 := by
  rw [endC, if_pos (show (bs c ls sz h b).hc = true from hc)]
  exact ⟨rfl, rfl⟩
theorem run_body (c : CutS) (ls : List ByteArray) (sz : Int) (h : HeadR) (rest : List UInt8) (out : List Rq) (s : List UInt8) : ∀ (b b' : BodyS), b.done = false → runB b (s ++ rest) = (b', s.length) → b'.done = true → runM (s ++ rest) (bs c ls sz h b) out = runM rest (normM (bs c ls sz h b') out).1 (normM (bs c ls sz h b') out).2 := by
  induction s with
  | nil =>
    intro b b' hb hr hd
    rw [List.nil_append] at hr
    cases rest with
    | nil => rw [runB] at hr; injection hr with hr _; rw [hr] at hb; rw [hb] at hd; cases hd
    | cons x r => rw [run_cons b x r hb] at hr; injection hr with _ hr; simp at hr
  | cons x r ih =>
    intro b b' hb hr hd
    rw [List.cons_append, run_cons b x _ hb] at hr
    injection hr with h1 h2
    simp only [List.length_cons, Nat.add_right_cancel_iff] at h2
    rw [List.cons_append, runM, if_neg (show ¬ (bs c ls sz h b).done = true by simp [bs, hdC, hs])]
    have hstep : stepL (bs c ls sz h b) x = bs c ls sz h (stepB b x) := rfl
    rw [hstep]
    by_cases hbd : (stepB b x).done = true
    · have e := run_done (stepB b x) (r ++ rest) hbd
      rw [e] at h1 h2
      have hr0 : r = [] := List.eq_nil_of_length_eq_zero h2.symm
      subst hr0
      rw [← h1]
      rfl
    · have hbd' : (stepB b x).done = false := by simpa using hbd
      rw [norm_bs c ls sz h _ out hbd']
      exact ih (stepB b x) b' hbd' (Prod.ext h1 h2) hd
end Go.Proofs.YtldaingkcnmaoaaDoor.M
