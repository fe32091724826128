-- Made smaller by wip/squeeze.py out of this claim's texts. Not trusted: Lean checks it.
import Derived.Test.YtldaingkcnmaoaaDoorXCutL
import Derived.Test.YtldaingkcnmaoaaDoorXChunksM
import Derived.Test.YtldaingkcnmaoaaDoorXSeedT
set_option linter.unusedVariables false
set_option linter.unusedSimpArgs false
namespace Go.Proofs.YtldaingkcnmaoaaDoor.M
open Go.RowKit Go.Proofs.YtldaingkcnmaoaaDoorW.PrintWords Go.Proofs.YtldaingkcnmaoaaDoor.X
def plainB (m : Nat) (d : List UInt8) : BodyS := { ch := false, left := (m : Int), st := 0, line := [], data := d, status := 0, done := decide (m = 0) }
theorem plain_new (m : Nat) : newB (m : Int) = plainB m [] := by
  have h1 : decide ((m : Int) < 0) = false := decide_eq_false (by omega)
  have h2 : (if (m : Int) < 0 then (0 : Int) else (m : Int)) = (m : Int) := if_neg (by omega)
  have h3 : ((m : Int) == 0) = decide (m = 0) := by
    by_cases h : m = 0
    · subst h; rfl
    · rw [decide_eq_false h]; exact beq_eq_false_iff_ne.2 (by omega)
  simp only [newB, plainB, h1, h2, h3]
theorem plain_step (m : Nat) (d : List UInt8) (c : UInt8) (h : d.length + (m + 1) ≤ 600) : stepB (plainB (m + 1) d) c = plainB m (d ++ [c]) := by
  have h1 : ¬ (plainB (m + 1) d).done = true := by simp [plainB]
  have h2 : (plainB (m + 1) d).ch = false := rfl
  have h3 : ¬ (plainB (m + 1) d).data.length = 600 := by show ¬ d.length = 600; omega
  have hw : wrap64 (((m + 1 : Nat) : Int) - 1) = (m : Int) := by rw [w64 (by omega) (by omega)]; omega
  have h4 : X.takeB (plainB (m + 1) d) c = { plainB (m + 1) d with data := d ++ [c], left := (m : Int) } := by
    unfold X.takeB
    rw [if_neg h3]
    simp only [plainB, hw]
  have h5 : ((m : Int) == 0) = decide (m = 0) := by
    by_cases h : m = 0
    · subst h; rfl
    · rw [decide_eq_false h]; exact beq_eq_false_iff_ne.2 (by omega)
  rw [stepB, if_neg h1, if_pos h2, h4]
  simp [plainB, h5]
theorem plain_run (s : List UInt8) : ∀ (m : Nat) (d : List UInt8), d.length + m ≤ 600 → runB (plainB m d) s = (plainB (m - min m s.length) (d ++ s.take m), min m s.length) := by
  induction s with
  | nil => intro m d h; simp [runB]
  | cons c r ih =>
    intro m d h
    cases m with
    | zero => rw [runB, if_pos (by simp [plainB])]; simp
    | succ m =>
      rw [runB, if_neg (by simp [plainB]), plain_step m d c h, ih m (d ++ [c]) (by simp; omega)]
      simp only [List.length_cons, List.take_succ_cons, List.append_assoc, List.singleton_append]
      have e1 : min (m + 1) (r.length + 1) = min m r.length + 1 := by omega
      have e2 : m + 1 - (min m r.length + 1) = m - min m r.length := by omega
      rw [e1, e2]
def mL (i : Nat) : List UInt8 := methodsL.getD i []
def tL (i : Nat) : List UInt8 := targetsL.getD i []
def bL (i : Nat) : List UInt8 := bodiesL.getD i []
def lFirst (mi ti : Nat) : List UInt8 := mL mi ++ 32 :: (tL ti ++ 32 :: sVer)
def lHostS : List UInt8 := [72, 111, 115, 116, 58, 32, 104]
def lTok (tk : Nat) : List (List UInt8) := if tk = 0 then [] else [[84, 111, 107, 101, 110, 58, 32, if tk = 3 then 117 else 116]]
def lClose (cl : Bool) : List (List UInt8) := if cl = true then [[67, 111, 110, 110, 101, 99, 116, 105, 111, 110, 58, 32, 99, 108, 111, 115, 101]] else []
def digs (n : Nat) : List UInt8 := if n < 10 then [UInt8.ofNat (48 + n)] else if n < 100 then [UInt8.ofNat (48 + n / 10), UInt8.ofNat (48 + n % 10)] else [UInt8.ofNat (48 + n / 100), UInt8.ofNat (48 + n / 10 % 10), UInt8.ofNat (48 + n % 10)]
def lLen : List UInt8 := [67, 111, 110, 116, 101, 110, 116, 45, 76, 101, 110, 103, 116, 104, 58, 32]
def lEnc : List UInt8 := [84, 114, 97, 110, 115, 102, 101, 114, 45, 69, 110, 99, 111, 100, 105, 110, 103, 58, 32]
def lFrame (wr ch bi : Nat) : List (List UInt8) :=
  if wr = 1 then [[66, 97, 100]] else if wr = 2 then [lLen ++ [57, 57, 57]] else if wr = 3 then [lEnc ++ [103, 122, 105, 112]]
  else if ch > 0 then [lEnc ++ sChunk] else if bL bi = [] then [] else [lLen ++ digs (bL bi).length]
def lRest (tk : Nat) (cl : Bool) (wr ch bi : Nat) : List (List UInt8) := lHostS :: (lTok tk ++ (lClose cl ++ lFrame wr ch bi))
def lBody (wr ch bi : Nat) : List UInt8 := if 1 ≤ wr ∧ wr ≤ 3 then [] else if ch > 0 then chunksF (bL bi).length ch (bL bi) else bL bi
def seedL (mi ti bi tk ch : Nat) (cl : Bool) (wr : Nat) : List UInt8 := textOf (lFirst mi ti :: lRest tk cl wr ch bi) ++ 13 :: 10 :: lBody wr ch bi
def cleanB (w : List UInt8) : Bool := (w.all fun c => decide (c.toNat ≠ 13 ∧ c.toNat ≠ 10)) && !w.isEmpty
theorem cleanB_of {w : List UInt8} (h : cleanB w = true) : Clean w ∧ w ≠ [] := by
  simp only [cleanB, Bool.and_eq_true, List.all_eq_true, decide_eq_true_eq] at h
  exact ⟨h.1, by intro e; rw [e] at h; simp at h⟩
theorem first_ok : ∀ (mi : Fin 6) (ti : Fin 16), (cleanB (lFirst mi.val ti.val) && ((mL mi.val).all fun c => decide (c.toNat ≠ 32)) && ((tL ti.val).all fun c => decide (c.toNat ≠ 32)) && firstL (mL mi.val) (tL ti.val) && decide ((lFirst mi.val ti.val).length ≤ 60)) = true := by decide +kernel
def pairG (ls cs : List (List UInt8)) : Bool × Int := pickG (fun i => (true, i)) (fun n => (false, n)) ls cs
def lenOf (ch bi : Nat) : Int := if ch > 0 then -1 else ((bL bi).length : Int)
def restB (tk : Nat) (cl : Bool) (wr ch bi : Nat) : Bool := (lRest tk cl wr ch bi).all cleanB && decide (sizeOf' (lRest tk cl wr ch bi) ≤ 200) && decide ((lRest tk cl wr ch bi).length ≤ 16) &&
  match fieldsL (lRest tk cl wr ch bi) with
  | none => decide (wr = 1)
  | some fs => decide (wr ≠ 1) && !badFrame fs && (closeL fs == cl) && (pairG (allL sLen fs) (allL sCod fs) == (if wr = 2 then (true, 413) else if wr = 3 then (true, 501) else (false, lenOf ch bi)))
theorem rest_ok : ∀ (tk : Fin 4) (cl : Bool) (wr : Fin 4) (ch : Fin 4) (bi : Fin 8), restB tk.val cl wr.val ch.val bi.val = true := by decide +kernel
def fsOf (tk : Nat) (cl : Bool) (wr ch bi : Nat) : List FldM := (fieldsL (lRest tk cl wr ch bi)).getD []
def headS (mi ti tk : Nat) (cl : Bool) (ch bi : Nat) : HeadR := ⟨mL mi, tL ti, fsOf tk cl 0 ch bi, cl, lenOf ch bi, 0⟩
def wrongS (wr : Nat) : Int := if wr = 1 then 400 else if wr = 2 then 413 else 501
theorem pair_frame (m t : List UInt8) (fs : List FldM) (hb : badFrame fs = false) : frameL m t fs = (fun p : Bool × Int => if p.1 = true then badL p.2 else ⟨m, t, fs, closeL fs, p.2, 0⟩) (pairG (allL sLen fs) (allL sCod fs)) := by
  have h := pickG_map (fun p : Bool × Int => if p.1 = true then badL p.2 else (⟨m, t, fs, closeL fs, p.2, 0⟩ : HeadR)) (fun i => (true, i)) (fun n => (false, n)) (allL sLen fs) (allL sCod fs)
  rw [frameL, if_neg (by rw [hb]; decide)]
  exact h.symm
theorem seed_parse (mi ti tk ch bi wr : Nat) (cl : Bool) (hm : mi < 6) (ht : ti < 16) (hk : tk < 4) (hc : ch < 4) (hb : bi < 8) (hw : wr < 4) :
    parseL (lFirst mi ti :: lRest tk cl wr ch bi) = if wr = 0 then headS mi ti tk cl ch bi else badL (wrongS wr) := by
  have h1 := first_ok ⟨mi, hm⟩ ⟨ti, ht⟩
  have h2 := rest_ok ⟨tk, hk⟩ cl ⟨wr, hw⟩ ⟨ch, hc⟩ ⟨bi, hb⟩
  simp only [Bool.and_eq_true, List.all_eq_true, decide_eq_true_eq] at h1
  obtain ⟨⟨⟨⟨hcl, hm32⟩, ht32⟩, hfirst⟩, hlen⟩ := h1
  unfold restB at h2
  simp only [Bool.and_eq_true, decide_eq_true_eq] at h2
  obtain ⟨⟨⟨_, _⟩, hl16⟩, h2⟩ := h2
  have hl0 : (lFirst mi ti).length = (mL mi).length + (tL ti).length + 10 := by
    have hv : sVer.length = 8 := rfl
    simp only [lFirst, List.length_append, List.length_cons, hv]; omega
  cases hf : fieldsL (lRest tk cl wr ch bi) with
  | none =>
    rw [hf] at h2
    have hw1 : wr = 1 := by simpa using h2
    subst hw1
    rw [if_neg (by decide)]
    have hv : sVer.length = 8 := rfl
    show parseL ((mL mi ++ 32 :: (tL ti ++ 32 :: sVer)) :: lRest tk cl 1 ch bi) = badL 400
    rw [parseL, if_neg (by simp only [List.length_append, List.length_cons, hv]; omega), words3 _ _ sVer hm32 ht32 (by decide)]
    simp only [hfirst, if_true, hf]
  | some fs =>
    rw [hf] at h2
    simp only [Bool.and_eq_true, decide_eq_true_eq, Bool.not_eq_true', beq_iff_eq] at h2
    obtain ⟨⟨⟨hw1, hbf⟩, hclo⟩, hpk⟩ := h2
    show parseL ((mL mi ++ 32 :: (tL ti ++ 32 :: sVer)) :: lRest tk cl wr ch bi) = _
    rw [parse_plain _ _ _ fs hm32 ht32 (by omega) hl16 hfirst hf, pair_frame _ _ _ hbf, hpk, hclo]
    have hwc : wr = 0 ∨ wr = 2 ∨ wr = 3 := by omega
    rcases hwc with rfl | rfl | rfl
    · simp only [if_true, headS, fsOf, hf, Option.getD_some]
      rfl
    · rfl
    · rfl
theorem textOf_app (a b : List (List UInt8)) : textOf (a ++ b) = textOf a ++ textOf b := by
  induction a with
  | nil => rfl
  | cons w r ih => simp [textOf, ih, List.append_assoc]
theorem sizeOf_cons (w : List UInt8) (r : List (List UInt8)) : sizeOf' (w :: r) = w.length + 2 + sizeOf' r := rfl
theorem seed_fit (mi ti tk ch bi wr : Nat) (cl : Bool) (hm : mi < 6) (ht : ti < 16) (hk : tk < 4) (hc : ch < 4) (hb : bi < 8) (hw : wr < 4) :
    (∀ w ∈ lFirst mi ti :: lRest tk cl wr ch bi, Clean w ∧ w ≠ []) ∧ sizeOf' (lFirst mi ti :: lRest tk cl wr ch bi) + 2 ≤ 1000 := by
  have h1 := first_ok ⟨mi, hm⟩ ⟨ti, ht⟩
  have h2 := rest_ok ⟨tk, hk⟩ cl ⟨wr, hw⟩ ⟨ch, hc⟩ ⟨bi, hb⟩
  simp only [Bool.and_eq_true, List.all_eq_true, decide_eq_true_eq] at h1
  unfold restB at h2
  simp only [Bool.and_eq_true, decide_eq_true_eq, List.all_eq_true] at h2
  obtain ⟨⟨⟨hall, hsz⟩, _⟩, _⟩ := h2
  refine ⟨fun w hw => ?_, ?_⟩
  · rcases List.mem_cons.1 hw with rfl | hw
    · exact cleanB_of h1.1.1.1.1
    · exact cleanB_of (hall w hw)
  · have := h1.2
    rw [sizeOf_cons]
    omega
theorem seed_split (mi ti bi tk ch : Nat) (cl : Bool) (wr : Nat) (rest : List UInt8) : seedL mi ti bi tk ch cl wr ++ rest = textOf (lFirst mi ti :: lRest tk cl wr ch bi) ++ 13 :: 10 :: (lBody wr ch bi ++ rest) := by simp [seedL, List.append_assoc]
theorem seed_bad (c : CutS) (out : List Rq) (rest : List UInt8) (mi ti bi tk ch : Nat) (cl : Bool) (wr : Nat) (hm : mi < 6) (ht : ti < 16) (hk : tk < 4) (hc : ch < 4) (hb : bi < 8) (hw : wr < 4) (h0 : wr ≠ 0) :
    ∃ c2, runM (seedL mi ti bi tk ch cl wr ++ rest) (hs c [] [] 0) out = (c2, out) ∧ c2.done = true ∧ c2.status = wrongS wr := by
  obtain ⟨hcl, hsz⟩ := seed_fit mi ti tk ch bi wr cl hm ht hk hc hb hw
  have hp := seed_parse mi ti tk ch bi wr cl hm ht hk hc hb hw
  rw [if_neg h0] at hp
  have hst : (parseL (lFirst mi ti :: lRest tk cl wr ch bi)).st = wrongS wr := by rw [hp]; rfl
  have hne : (parseL (lFirst mi ti :: lRest tk cl wr ch bi)).st ≠ 0 := by rw [hst]; unfold wrongS; split; decide; split <;> decide
  rw [seed_split, run_text c _ out _ hcl (by simp) hsz, heads_bad c _ _ hne, norm_fail, runM_done _ _ _ rfl]
  exact ⟨_, rfl, rfl, by rw [← hst]; rfl⟩
theorem bodies_len : ∀ bi : Fin 8, (bL bi.val).length ≤ 200 := by decide +kernel
theorem seed_good (c : CutS) (out : List Rq) (rest : List UInt8) (mi ti bi tk ch : Nat) (cl : Bool) (hm : mi < 6) (ht : ti < 16) (hk : tk < 4) (hc : ch < 4) (hb : bi < 8) :
    ∃ c2, runM (seedL mi ti bi tk ch cl 0 ++ rest) (hs c [] [] 0) out = runM rest c2 (out ++ [reqOf (headS mi ti tk cl ch bi) (bL bi)]) ∧ (cl = false → ∃ c', c2 = hs c' [] [] 0) ∧ (cl = true → c2.done = true ∧ c2.status = 0) := by
  obtain ⟨hcl, hsz⟩ := seed_fit mi ti tk ch bi 0 cl hm ht hk hc hb (by omega)
  have hp := seed_parse mi ti tk ch bi 0 cl hm ht hk hc hb (by omega)
  rw [if_pos rfl] at hp
  have hlen := bodies_len ⟨bi, hb⟩
  simp only at hlen
  have hst : (parseL (lFirst mi ti :: lRest tk cl 0 ch bi)).st = 0 := by rw [hp]; rfl
  rw [seed_split, run_text c _ out _ hcl (by simp) hsz, heads_ok c _ _ hst, hp]
  have fin : ∀ (ls : List ByteArray) (sz : Int) (b : BodyS), (cl = false → ∃ c', endC (bs c ls sz (headS mi ti tk cl ch bi) b) = hs c' [] [] 0) ∧ (cl = true → (endC (bs c ls sz (headS mi ti tk cl ch bi) b)).done = true ∧ (endC (bs c ls sz (headS mi ti tk cl ch bi) b)).status = 0) := fun ls sz b =>
    ⟨fun h => ⟨_, endC_open c ls sz _ b h⟩, fun h => endC_close c ls sz _ b h⟩
  have hbody : lBody 0 ch bi = if ch > 0 then chunksF (bL bi).length ch (bL bi) else bL bi := by rw [lBody, if_neg (by omega)]
  generalize List.map toBA (lFirst mi ti :: lRest tk cl 0 ch bi) = ls
  generalize sizeOf' (lFirst mi ti :: lRest tk cl 0 ch bi) + 2 = sz
  rw [hbody]
  by_cases h1 : ch > 0
  · rw [if_pos h1]
    have e : newB (headS mi ti tk cl ch bi).len = lnB 0 [] [] := by
      show newB (lenOf ch bi) = _
      rw [lenOf, if_pos h1]
      exact newB_chunks
    have hr := chunks_run ch h1 (by omega) rest (bL bi).length (bL bi) [] (Nat.le_refl _) (by simp only [List.length_nil]; omega)
    rw [e, norm_bs _ _ _ _ _ _ rfl, run_body c ls sz _ rest out _ _ _ rfl hr rfl, norm_end _ _ _ _ _ _ rfl rfl]
    exact ⟨_, rfl, fin _ _ _⟩
  · rw [if_neg h1]
    have e : newB (headS mi ti tk cl ch bi).len = plainB (bL bi).length [] := by
      show newB (lenOf ch bi) = _
      rw [lenOf, if_neg h1]
      exact plain_new _
    rw [e]
    by_cases h2 : bL bi = []
    · rw [h2]
      rw [show plainB ([] : List UInt8).length [] = plainB 0 [] from rfl, norm_end _ _ _ _ _ _ rfl rfl, List.nil_append]
      exact ⟨_, rfl, fin _ _ _⟩
    · have hpos : 0 < (bL bi).length := List.length_pos_iff.2 h2
      have hr := plain_run (bL bi ++ rest) (bL bi).length [] (by simp only [List.length_nil]; omega)
      have hmin : min (bL bi).length (bL bi ++ rest).length = (bL bi).length := by rw [List.length_append]; omega
      rw [hmin, Nat.sub_self, List.take_left, List.nil_append] at hr
      have hd : (plainB (bL bi).length []).done = false := by show decide ((bL bi).length = 0) = false; exact decide_eq_false (by omega)
      rw [norm_bs _ _ _ _ _ _ hd, run_body c ls sz _ rest out _ _ _ hd hr rfl, norm_end _ _ _ _ _ _ rfl rfl]
      exact ⟨_, rfl, fin _ _ _⟩
theorem strAt_toBA (L : List (List UInt8)) (i : Nat) : strAt L (i : Int) = toBA (L.getD i []) := by simp [strAt, toBA]
theorem seedH1_toBA (a0 a1 : Int) (mi ti : Nat) (hm : Int.tmod (bits .and .i64 a0 255) 6 = (mi : Int)) (ht : bits .and .i64 a1 15 = (ti : Int)) : seedH1 a0 a1 = toBA (textOf [lFirst mi ti, lHostS]) := by
  unfold seedH1 seedM seedT
  rw [hm, ht, strAt_toBA, strAt_toBA]
  show ((toBA (mL mi) ++ toBA [32]) ++ toBA (tL ti)) ++ toBA [32, 72, 84, 84, 80, 47, 49, 46, 49, 13, 10, 72, 111, 115, 116, 58, 32, 104, 13, 10] = _
  simp only [toBA_append]
  congr 1
  simp [textOf, lFirst, lHostS, sVer, List.append_assoc]
theorem seedH2_toBA (a0 a1 a3 : Int) (mi ti tk : Nat) (hm : Int.tmod (bits .and .i64 a0 255) 6 = (mi : Int)) (ht : bits .and .i64 a1 15 = (ti : Int)) (hk : bits .and .i64 a3 3 = (tk : Int)) (hk4 : tk < 4) : seedH2 a0 a1 a3 = toBA (textOf (lFirst mi ti :: lHostS :: lTok tk)) := by
  unfold seedH2
  rw [seedH1_toBA a0 a1 mi ti hm ht, hk]
  have : tk = 0 ∨ tk = 1 ∨ tk = 2 ∨ tk = 3 := by omega
  rcases this with rfl | rfl | rfl | rfl
  · rfl
  all_goals
    rw [if_pos (by decide)]
    show toBA _ ++ ((toBA [84, 111, 107, 101, 110, 58, 32] ++ toBA [_]) ++ toBA [13, 10]) = _
    simp only [toBA_append]
    congr 1
    simp [textOf, lTok, List.append_assoc]
theorem seedH_toBA (a0 a1 a3 : Int) (cl : Bool) (mi ti tk : Nat) (hm : Int.tmod (bits .and .i64 a0 255) 6 = (mi : Int)) (ht : bits .and .i64 a1 15 = (ti : Int)) (hk : bits .and .i64 a3 3 = (tk : Int)) (hk4 : tk < 4) : seedH a0 a1 a3 cl = toBA (textOf (lFirst mi ti :: lHostS :: (lTok tk ++ lClose cl))) := by
  unfold seedH
  rw [seedH2_toBA a0 a1 a3 mi ti tk hm ht hk hk4]
  cases cl with
  | false => simp [lClose]
  | true =>
    rw [if_pos rfl]
    show toBA _ ++ toBA [67, 111, 110, 110, 101, 99, 116, 105, 111, 110, 58, 32, 99, 108, 111, 115, 101, 13, 10] = _
    simp only [toBA_append]
    congr 1
    simp [textOf, textOf_app, lClose, List.append_assoc]
theorem digs_all : ∀ n : Fin 200, (crossroadlaw04_digits.f 4 (n.val : Int)).map (fun s => s.data.toList) = some (digs n.val) := by decide +kernel
theorem digs_f (n : Nat) (h : n < 200) : Ev (fun k => crossroadlaw04_digits.f k (n : Int)) (toBA (digs n)) := by
  have h1 := digs_all ⟨n, h⟩
  obtain ⟨s, hs, e⟩ := Option.map_eq_some_iff.1 h1
  refine Ev.ofMono (fun k => crossroadlaw04_digits.mono_l k _) 4 ?_
  rw [show ((⟨n, h⟩ : Fin 200).val : Int) = (n : Int) from rfl] at hs
  rw [hs, ← toBA_data s, e]
theorem bodies_lt : ∀ bi : Fin 8, (bL bi.val).length < 200 := by decide +kernel
theorem digs_len (n : Nat) : (digs n).length ≤ 3 := by unfold digs; split; simp; split <;> simp
def wrN (w : Nat) : Nat := if w = 1 ∨ w = 2 ∨ w = 3 then w else 0
theorem seedText_f (a0 a1 a2 a3 a4 a6 : Int) (cl : Bool) (mi ti bi tk ch w : Nat) (hm : Int.tmod (bits .and .i64 a0 255) 6 = (mi : Int)) (ht : bits .and .i64 a1 15 = (ti : Int)) (hb : bits .and .i64 a2 7 = (bi : Int)) (hk : bits .and .i64 a3 3 = (tk : Int)) (hc : bits .and .i64 a4 3 = (ch : Int)) (hw : bits .and .i64 a6 15 = (w : Int)) (hk4 : tk < 4) (hc4 : ch < 4) (hb8 : bi < 8) :
    Ev (fun k => crossroadlaw04_Seed_Text.f k a0 a1 a2 a3 a4 cl a6) (toBA (seedL mi ti bi tk ch cl (wrN w))) := by
  unfold crossroadlaw04_Seed_Text.f seedEnd seedB
  rw [hb, hc, hw, strAt_toBA, seedH_toBA a0 a1 a3 cl mi ti tk hm ht hk hk4]
  have hlen := bodies_len ⟨bi, hb8⟩
  simp only at hlen
  have hbl : bodiesL.getD bi [] = bL bi := rfl
  rw [hbl]
  have hcut : ∀ wr, textOf (lFirst mi ti :: lRest tk cl wr ch bi) = textOf (lFirst mi ti :: lHostS :: (lTok tk ++ lClose cl)) ++ textOf (lFrame wr ch bi) := fun wr => by
    rw [lRest, ← List.append_assoc, show lFirst mi ti :: lHostS :: ((lTok tk ++ lClose cl) ++ lFrame wr ch bi) = (lFirst mi ti :: lHostS :: (lTok tk ++ lClose cl)) ++ lFrame wr ch bi from rfl, textOf_app]
  unfold seedL
  rw [hcut]
  generalize textOf (lFirst mi ti :: lHostS :: (lTok tk ++ lClose cl)) = H
  by_cases e1 : w = 1
  · subst e1
    simp only [if_pos (show ((1 : Nat) : Int) = 1 from rfl)]
    refine Ev.const (congrArg some ?_)
    show toBA H ++ toBA [66, 97, 100, 13, 10, 13, 10] = _
    rw [toBA_append]
    congr 1
    simp [wrN, lFrame, lBody, textOf, List.append_assoc]
  by_cases e2 : w = 2
  · subst e2
    simp only [if_neg (show ¬ ((2 : Nat) : Int) = 1 by decide), if_pos (show ((2 : Nat) : Int) = 2 from rfl)]
    refine Ev.const (congrArg some ?_)
    show toBA H ++ toBA [67, 111, 110, 116, 101, 110, 116, 45, 76, 101, 110, 103, 116, 104, 58, 32, 57, 57, 57, 13, 10, 13, 10] = _
    rw [toBA_append]
    congr 1
    simp [wrN, lFrame, lBody, lLen, textOf, List.append_assoc]
  by_cases e3 : w = 3
  · subst e3
    simp only [if_neg (show ¬ ((3 : Nat) : Int) = 1 by decide), if_neg (show ¬ ((3 : Nat) : Int) = 2 by decide), if_pos (show ((3 : Nat) : Int) = 3 from rfl)]
    refine Ev.const (congrArg some ?_)
    show toBA H ++ toBA [84, 114, 97, 110, 115, 102, 101, 114, 45, 69, 110, 99, 111, 100, 105, 110, 103, 58, 32, 103, 122, 105, 112, 13, 10, 13, 10] = _
    rw [toBA_append]
    congr 1
    simp [wrN, lFrame, lBody, lEnc, textOf, List.append_assoc]
  have hwn : wrN w = 0 := by unfold wrN; rw [if_neg (by omega)]
  rw [hwn]
  simp only [if_neg (show ¬ ((w : Nat) : Int) = 1 by omega), if_neg (show ¬ ((w : Nat) : Int) = 2 by omega), if_neg (show ¬ ((w : Nat) : Int) = 3 by omega)]
  by_cases h4 : ch > 0
  · simp only [if_pos (show (ch : Int) > 0 by omega)]
    refine Ev.bind (chunks_f (ch : Int) ch (by unfold mx; split <;> omega) h4 (by omega) (bL bi) (by omega)) ?_
    have hcl := chunks_len ch h4 (by omega) (bL bi).length (bL bi)
    simp only [toBA_size, if_pos (show (chunksF (bL bi).length ch (bL bi)).length ≤ 1000000 by omega)]
    refine Ev.const (congrArg some ?_)
    show (toBA H ++ toBA [84, 114, 97, 110, 115, 102, 101, 114, 45, 69, 110, 99, 111, 100, 105, 110, 103, 58, 32, 99, 104, 117, 110, 107, 101, 100, 13, 10, 13, 10]) ++ toBA (chunksF (bL bi).length ch (bL bi)) = _
    simp only [toBA_append]
    congr 1
    simp [lFrame, lBody, lEnc, sChunk, textOf, List.append_assoc, h4]
  · simp only [if_neg (show ¬ (ch : Int) > 0 by omega), toBA_size]
    by_cases h5 : bL bi = []
    · simp only [h5, List.length_nil, if_true]
      refine Ev.const (congrArg some ?_)
      show toBA H ++ toBA [13, 10] = _
      rw [toBA_append]
      congr 1
      simp [lFrame, lBody, h4, h5, textOf]
    · have hpos : 0 < (bL bi).length := List.length_pos_iff.2 h5
      simp only [if_neg (show ¬ (bL bi).length = 0 by omega)]
      refine Ev.bind (digs_f (bL bi).length (by have := bodies_lt ⟨bi, hb8⟩; simpa using this)) ?_
      have hdl := digs_len (bL bi).length
      simp only [toBA_size, if_pos (show (digs (bL bi).length).length ≤ 1000000 by omega)]
      refine Ev.const (congrArg some ?_)
      show (((toBA H ++ toBA [67, 111, 110, 116, 101, 110, 116, 45, 76, 101, 110, 103, 116, 104, 58, 32]) ++ toBA (digs (bL bi).length)) ++ toBA [13, 10, 13, 10]) ++ toBA (bL bi) = _
      simp only [toBA_append]
      congr 1
      simp [lFrame, lBody, lLen, textOf, List.append_assoc, h4, h5]
end Go.Proofs.YtldaingkcnmaoaaDoor.M
