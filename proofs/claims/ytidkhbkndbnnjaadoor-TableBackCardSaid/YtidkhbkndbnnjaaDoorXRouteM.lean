/- table's functions as they are printed, and what they answer: in plain lists. -/
import Derived.Test.YtidkhbkndbnnjaaDoorXPathM
import Derived.Test.YtidkhbkndbnnjaaDoorXPatR
import Derived.Test.YtidkhbkndbnnjaaDoorX10
import Derived.Test.YtidkhbkndbnnjaaDoorX9
import Derived.Test.YtidkhbkndbnnjaaDoorX11
import Derived.Test.YtidkhbkndbnnjaaDoorX12
import Derived.Test.YtidkhbkndbnnjaaDoorX19
import Derived.Test.YtidkhbkndbnnjaaDoorX20
import Derived.Test.YtidkhbkndbnnjaaDoorX14
set_option linter.unusedVariables false
set_option linter.unusedSimpArgs false
namespace Go.Proofs.YtidkhbkndbnnjaaDoor.M
open Go.RowKit Go.Proofs.YtidkhbkndbnnjaaDoorW.PrintWords Go.Proofs.YtidkhbkndbnnjaaDoor.X

/-- A route: method, pattern, handler. -/
structure R3 where
  m : List UInt8
  p : List UInt8
  h : List UInt8
deriving DecidableEq
def rT (r : R3) : S27 := ⟨toBA r.m, toBA r.p, toBA r.h⟩
theorem rT_inj {a b : R3} (h : rT a = rT b) : a = b := by
  cases a; cases b
  simp only [rT, S27.mk.injEq] at h
  rw [toBA_inj h.1, toBA_inj h.2.1, toBA_inj h.2.2]
theorem exRs (l : List S27) : ∃ rs : List R3, l = rs.map rT := ⟨l.map fun s => ⟨s.f0.data.toList, s.f1.data.toList, s.f2.data.toList⟩, by
  rw [List.map_map]
  conv => lhs; rw [← List.map_id l]
  refine List.map_congr_left fun s _ => ?_
  cases s
  simp [rT, toBA_data]⟩
theorem rd_mid (pre : List R3) (r : R3) (q : List R3) : rd_T27 ((pre ++ r :: q).map rT) (pre.length : Int) = rT r := by simp [rd_T27]
def Small (r : R3) : Prop := r.m.length ≤ 100000 ∧ r.p.length ≤ 100000 ∧ r.h.length ≤ 100000
def handL (h : List UInt8) : Bool := hlists.any fun x => x == h
theorem handler_f (h : List UInt8) : table_Handler.f (toBA h) = some (handL h) := by simp [table_Handler.f, handL]
def rightL (r : R3) : Bool := (patL r.p).2 && (tokenL r.m && handL r.h)
theorem right_f (r : R3) (h : Small r) : Ev (fun k => table_Right.f k (toBA r.m) (toBA r.p) (toBA r.h)) (rightL r) := by
  simp only [table_Right.f, handler_f, Option.bind_some]
  refine Ev.bind (pat_f r.p h.2.1) ?_
  simp only [segsT, rightL]
  rcases Bool.eq_false_or_eq_true (patL r.p).2 with hp | hp
  · simp only [hp, if_true, Bool.true_and]
    refine Ev.bind (token_f r.m (by have := h.1; omega)) ?_
    rcases Bool.eq_false_or_eq_true (tokenL r.m) with ht | ht
    · simp only [ht, if_true, Bool.true_and]; exact Ev.const rfl
    · simp only [ht, Bool.false_eq_true, if_false, Bool.false_and]; exact Ev.now false
  · simp only [hp, Bool.false_eq_true, if_false, Bool.false_and]; exact Ev.now false

/-! ### Check -/
theorem patL_bd (s : List UInt8) : (patL s).1.length ≤ s.length + 1 ∧ ∀ x ∈ (patL s).1, x.length ≤ s.length := by
  cases s with
  | nil => simp [patL, slash1]
  | cons c t =>
    by_cases hc : c.toNat = 47
    · rw [patL_cons c t hc]
      split
      · simp
      · split
        · refine ⟨by have := wordsL_count_le 47 t; simp; omega, fun x hx => ?_⟩
          have := wordsL_len_le 47 t x hx
          simp; omega
        · simp
    · rw [patL_no c t hc]; simp
theorem shapeL_len (l : List (List UInt8)) (h : ∀ x ∈ l, x.length ≤ 100000) : (shapeL l).length ≤ l.length * 100001 := by
  induction l with
  | nil => simp [shapeL]
  | cons x r ih =>
    have h1 := segL_len x (h x (by simp))
    have h2 := ih (fun y hy => h y (by simp [hy]))
    rw [show shapeL (x :: r) = segL x ++ shapeL r from rfl]
    simp only [List.length_append, List.length_cons]; omega
def keyL (r : R3) : List UInt8 × List UInt8 := (r.m, shapeL (patL r.p).1)
def clashGo : List (List UInt8 × List UInt8) → List R3 → Int
  | _, [] => 0
  | seen, r :: q => if keyL r ∈ seen then 3 else clashGo (keyL r :: seen) q
def checkL (l : List R3) : Int := if l.all rightL = true then (if l.length > 24 then 2 else clashGo [] l) else 1
def keysM (seen : List (List UInt8 × List UInt8)) : List ((ByteArray × ByteArray) × Bool) := seen.map fun q => ((toBA q.1, toBA q.2), true)
theorem mapGet_keys (seen : List (List UInt8 × List UInt8)) (a b : List UInt8) : mapGetP (keysM seen) ((toBA a, toBA b) : ByteArray × ByteArray) = decide ((a, b) ∈ seen) := by
  unfold mapGetP
  induction seen with
  | nil => simp [keysM, mapGet]
  | cons s r ih =>
    have e : keysM (s :: r) = ((toBA s.1, toBA s.2), true) :: keysM r := rfl
    rw [e, mapGet]
    by_cases h : s = (a, b)
    · subst h; simp
    · rw [if_neg (fun e => h (by
        have h1 := toBA_inj (congrArg Prod.fst e)
        have h2 := toBA_inj (congrArg Prod.snd e)
        exact Prod.ext h1 h2)), ih]
      simp [show ¬ (a, b) = s from fun e => h e.symm]
theorem check_l1 (l : List R3) (hl : l.length ≤ 100000) (hs : ∀ r ∈ l, Small r) (post : List R3) : ∀ (pre : List R3) (seen : List (List UInt8 × List UInt8)), l = pre ++ post → seen.length ≤ pre.length →
    Ev (fun k => table_Check.l1 k (keysM seen) (l.map rT) (l.length : Int) (pre.length : Int)) (clashGo seen post) := by
  induction post with
  | nil =>
    intro pre seen h hn
    have hp : pre.length = l.length := by subst h; simp
    refine Ev.step' ?_
    simp only [table_Check.l1, if_neg (show ¬ (pre.length : Int) < (l.length : Int) by omega), clashGo]
    exact Ev.now _
  | cons r q ih =>
    intro pre seen h hn
    have hp : pre.length < l.length := by subst h; simp
    have hr : rd_T27 (l.map rT) (pre.length : Int) = rT r := by rw [h]; exact rd_mid _ _ _
    have hw : wrap64 ((pre.length : Int) + 1) = ((pre ++ [r]).length : Int) := by rw [w64 (by omega) (by omega)]; simp
    have hsr := hs r (by rw [h]; simp)
    have hb := patL_bd r.p
    have hx : ∀ x ∈ (patL r.p).1, x.length ≤ 100000 := fun x hx => by have := hb.2 x hx; have := hsr.2.1; omega
    have hsl := shapeL_len (patL r.p).1 hx
    have hkl : (keysM seen).length = seen.length := by simp [keysM]
    have h1 := hsr.1
    have h2 := hsr.2.1
    refine Ev.step' ?_
    simp only [table_Check.l1, if_pos (show (pre.length : Int) < (l.length : Int) by omega), if_pos (show (0 : Int) ≤ (pre.length : Int) by omega), List.length_map, hr, rT, hw]
    refine Ev.bind (pat_f r.p h2) ?_
    simp only [segsT]
    refine Ev.bind (shape_f (patL r.p).1 (by omega) hx) ?_
    simp only [toBA_size, if_pos (show r.m.length ≤ 9223372036854775807 by omega), if_pos (show (shapeL (patL r.p).1).length ≤ 9223372036854775807 by have : (patL r.p).1.length * 100001 ≤ 100001 * 100001 := Nat.mul_le_mul_right _ (by omega); omega), mapGet_keys, hkl, if_pos (show seen.length < 9223372036854775807 by omega)]
    rw [clashGo]
    by_cases hm : keyL r ∈ seen
    · rw [if_pos hm]
      simp only [decide_eq_true (show (r.m, shapeL (patL r.p).1) ∈ seen from hm), if_true]
      exact Ev.now (3 : Int)
    · rw [if_neg hm]
      simp only [decide_eq_false (show ¬ (r.m, shapeL (patL r.p).1) ∈ seen from hm), Bool.false_eq_true, if_false]
      exact ih (pre ++ [r]) ((r.m, shapeL (patL r.p).1) :: seen) (by simp [h]) (by simp; omega)
theorem check_l0 (l : List R3) (hl : l.length ≤ 100000) (hs : ∀ r ∈ l, Small r) (post : List R3) : ∀ pre : List R3, l = pre ++ post → pre.all rightL = true →
    Ev (fun k => table_Check.l0 k (l.map rT) ([] : List ((ByteArray × ByteArray) × Bool)) (l.map rT) (l.length : Int) (pre.length : Int)) (checkL l) := by
  induction post with
  | nil =>
    intro pre h ha
    obtain rfl : l = pre := by simpa using h
    refine Ev.step' ?_
    simp only [table_Check.l0, if_neg (show ¬ (l.length : Int) < (l.length : Int) by omega), List.length_map, checkL, if_pos ha]
    by_cases h24 : l.length > 24
    · simp only [if_pos (show (l.length : Int) > 24 by omega), if_pos h24]; exact Ev.now (2 : Int)
    · simp only [if_neg (show ¬ (l.length : Int) > 24 by omega), if_neg h24]
      exact check_l1 l hl hs l [] [] rfl (Nat.le_refl _)
  | cons r q ih =>
    intro pre h ha
    have hp : pre.length < l.length := by subst h; simp
    have hr : rd_T27 (l.map rT) (pre.length : Int) = rT r := by rw [h]; exact rd_mid _ _ _
    have hw : wrap64 ((pre.length : Int) + 1) = ((pre ++ [r]).length : Int) := by rw [w64 (by omega) (by omega)]; simp
    have hsr := hs r (by rw [h]; simp)
    refine Ev.step' ?_
    simp only [table_Check.l0, if_pos (show (pre.length : Int) < (l.length : Int) by omega), if_pos (show (0 : Int) ≤ (pre.length : Int) by omega), List.length_map, hr, rT, hw]
    refine Ev.bind (right_f r hsr) ?_
    cases hrr : rightL r with
    | true =>
      simp only [if_true]
      exact ih (pre ++ [r]) (by simp [h]) (by rw [List.all_append, ha]; simp [hrr])
    | false =>
      have : l.all rightL = false := by rw [h, List.all_append]; simp [hrr]
      simp only [Bool.false_eq_true, if_false, checkL, this]
      exact Ev.now (1 : Int)
theorem check_f (l : List R3) (hl : l.length ≤ 100000) (hs : ∀ r ∈ l, Small r) : Ev (fun k => table_Check.f k (l.map rT)) (checkL l) := by
  have := check_l0 l hl hs l [] rfl rfl
  simpa [table_Check.f] using this

/-! ### Parse -/
def fieldsL (l : List UInt8) : List (List UInt8) := (wordsL 32 l).filter fun w => !w.isEmpty
def parseGo : List R3 → List (List UInt8) → List R3 × Int
  | acc, [] => if checkL acc = 0 then (acc, 0) else ([], checkL acc)
  | acc, l :: r => match fieldsL l with
    | [] => parseGo acc r
    | [a, b, c] => parseGo (acc ++ [R3.mk a b c]) r
    | _ => ([], 1)
def parseL (s : List UInt8) : List R3 × Int := parseGo [] (wordsL 10 s)
def parT (p : List R3 × Int) : List S27 × Int := (p.1.map rT, p.2)
theorem fields_le (l : List UInt8) : ∀ w ∈ fieldsL l, w.length ≤ l.length := fun w hw => wordsL_len_le 32 l w (List.mem_filter.1 hw).1
theorem parse_l1 (acc : List R3) (lines : List (List UInt8)) (i : Nat) (hacc : acc.length ≤ 100001) (hi : i ≤ 100001) (ws : List (List UInt8)) (hws : ws.length ≤ 100001) (res : List R3 × Int)
    (next : Ev (fun k => match ws.filter (fun w => !w.isEmpty) with
      | [] => table_Parse.l0 k (acc.map rT) (lines.map toBA) (lines.length : Int) ((i + 1 : Nat) : Int)
      | [a, b, c] => table_Parse.l0 k ((acc ++ [R3.mk a b c]).map rT) (lines.map toBA) (lines.length : Int) ((i + 1 : Nat) : Int)
      | _ => some (([] : List S27), (1 : Int))) (parT res)) (post : List (List UInt8)) : ∀ pre : List (List UInt8), ws = pre ++ post →
    Ev (fun k => table_Parse.l1 k (acc.map rT) ((pre.filter fun w => !w.isEmpty).map toBA) (lines.map toBA) (lines.length : Int) (i : Int) (ws.map toBA) (ws.length : Int) (pre.length : Int)) (parT res) := by
  have hwi : wrap64 ((i : Int) + 1) = ((i + 1 : Nat) : Int) := by rw [w64 (by omega) (by omega)]; simp
  induction post with
  | nil =>
    intro pre h
    obtain rfl : ws = pre := by simpa using h
    refine Ev.step' ?_
    simp only [table_Parse.l1, if_neg (show ¬ (ws.length : Int) < (ws.length : Int) by omega), List.length_map, hwi]
    generalize hf : ws.filter (fun w => !w.isEmpty) = f at next ⊢
    match f, next with
    | [], next =>
      simp only [List.length_nil, Int.natCast_zero, if_true]
      exact next
    | [a], next =>
      simp only [List.length_singleton, if_neg (show ¬ ((1 : Nat) : Int) = 0 by decide), if_neg (show ¬ ((1 : Nat) : Int) = 3 by decide)]
      exact next
    | [a, b], next =>
      simp only [List.length_cons, List.length_nil, if_neg (show ¬ ((0 + 1 + 1 : Nat) : Int) = 0 by decide), if_neg (show ¬ ((0 + 1 + 1 : Nat) : Int) = 3 by decide)]
      exact next
    | [a, b, c], next =>
      have r0 : rdOf ByteArray.empty ([a, b, c].map toBA) 0 = toBA a := rfl
      have r1 : rdOf ByteArray.empty ([a, b, c].map toBA) 1 = toBA b := rfl
      have r2 : rdOf ByteArray.empty ([a, b, c].map toBA) 2 = toBA c := rfl
      simp only [List.length_cons, List.length_nil, if_neg (show ¬ ((0 + 1 + 1 + 1 : Nat) : Int) = 0 by decide), if_pos (show ((0 + 1 + 1 + 1 : Nat) : Int) = 3 by decide), if_pos (show (0 : Int) < ((0 + 1 + 1 + 1 : Nat) : Int) by decide), if_pos (show (1 : Int) < ((0 + 1 + 1 + 1 : Nat) : Int) by decide), if_pos (show (2 : Int) < ((0 + 1 + 1 + 1 : Nat) : Int) by decide), r0, r1, r2, if_pos (show acc.length < 2932031007402 by omega)]
      have e : acc.map rT ++ [(⟨toBA a, toBA b, toBA c⟩ : S27)] = (acc ++ [R3.mk a b c]).map rT := by simp [rT]
      rw [e]
      exact next
    | a :: b :: c :: d :: q, next =>
      simp only [List.length_cons, if_neg (show ¬ ((q.length + 1 + 1 + 1 + 1 : Nat) : Int) = 0 by omega), if_neg (show ¬ ((q.length + 1 + 1 + 1 + 1 : Nat) : Int) = 3 by omega)]
      exact next
  | cons w r ih =>
    intro pre h
    have hp : pre.length < ws.length := by subst h; simp
    have hr : rdOf ByteArray.empty (ws.map toBA) (pre.length : Int) = toBA w := by rw [h]; exact rdOf_mid _ _ _
    have hw : wrap64 ((pre.length : Int) + 1) = ((pre ++ [w]).length : Int) := by rw [w64 (by omega) (by omega)]; simp
    have hfl : (pre.filter fun w => !w.isEmpty).length ≤ pre.length := List.length_filter_le _ _
    have key := ih (pre ++ [w]) (by simp [h])
    refine Ev.step' ?_
    simp only [table_Parse.l1, if_pos (show (pre.length : Int) < (ws.length : Int) by omega), if_pos (show (0 : Int) ≤ (pre.length : Int) by omega), List.length_map, hr, hw, toBA_toList]
    by_cases h0 : w = []
    · subst h0
      simp only [if_true]
      simpa using key
    · simp only [if_neg h0, if_pos (show (pre.filter fun w => !w.isEmpty).length < 8796093022208 by omega)]
      have e : ((pre ++ [w]).filter fun w => !w.isEmpty).map toBA = (pre.filter fun w => !w.isEmpty).map toBA ++ [toBA w] := by
        rw [List.filter_append, List.map_append]
        have : (!w.isEmpty) = true := by cases w with | nil => exact absurd rfl h0 | cons _ _ => rfl
        simp [this]
      rw [e] at key
      exact key
theorem parse_l0 (lines : List (List UInt8)) (hl : lines.length ≤ 100000) (hx : ∀ x ∈ lines, x.length ≤ 100000) (post : List (List UInt8)) : ∀ (pre : List (List UInt8)) (acc : List R3), lines = pre ++ post → acc.length ≤ pre.length → (∀ r ∈ acc, Small r) →
    Ev (fun k => table_Parse.l0 k (acc.map rT) (lines.map toBA) (lines.length : Int) (pre.length : Int)) (parT (parseGo acc post)) := by
  induction post with
  | nil =>
    intro pre acc h ha hs
    have hp : pre.length = lines.length := by subst h; simp
    refine Ev.step' ?_
    simp only [table_Parse.l0, if_neg (show ¬ (pre.length : Int) < (lines.length : Int) by omega), parseGo]
    refine Ev.bind (check_f acc (by omega) hs) ?_
    by_cases h0 : checkL acc = 0
    · simp only [h0, if_true]; exact Ev.now _
    · simp only [if_neg h0]; exact Ev.now _
  | cons x r ih =>
    intro pre acc h ha hs
    have hp : pre.length < lines.length := by subst h; simp
    have hr : rdOf ByteArray.empty (lines.map toBA) (pre.length : Int) = toBA x := by rw [h]; exact rdOf_mid _ _ _
    have hxx := hx x (by rw [h]; simp)
    have hwc := wordsL_count_le 32 x
    refine Ev.step' ?_
    simp only [table_Parse.l0, if_pos (show (pre.length : Int) < (lines.length : Int) by omega), if_pos (show (0 : Int) ≤ (pre.length : Int) by omega), List.length_map, hr]
    refine Ev.bind (words_f 32 x (by omega)) ?_
    simp only [List.length_map]
    have step := parse_l1 acc lines pre.length (by omega) (by omega) (wordsL 32 x) (by omega) (parseGo acc (x :: r))
    refine step ?_ (wordsL 32 x) [] rfl
    have hfl := fields_le x
    have el : ((pre ++ [x]).length : Int) = ((pre.length + 1 : Nat) : Int) := by simp
    rw [parseGo]
    show Ev (fun k => match fieldsL x with
      | [] => table_Parse.l0 k (acc.map rT) (lines.map toBA) (lines.length : Int) ((pre.length + 1 : Nat) : Int)
      | [a, b, c] => table_Parse.l0 k ((acc ++ [R3.mk a b c]).map rT) (lines.map toBA) (lines.length : Int) ((pre.length + 1 : Nat) : Int)
      | _ => some (([] : List S27), (1 : Int))) _
    generalize fieldsL x = f at hfl ⊢
    match f, hfl with
    | [], hfl =>
      have key := ih (pre ++ [x]) acc (by simp [h]) (by simp; omega) hs
      rw [el] at key
      exact key
    | [a], hfl => exact Ev.now _
    | [a, b], hfl => exact Ev.now _
    | [a, b, c], hfl =>
      have key := ih (pre ++ [x]) (acc ++ [R3.mk a b c]) (by simp [h]) (by simp; omega) (fun z hz => by
        rcases List.mem_append.1 hz with hz | hz
        · exact hs z hz
        · rw [List.mem_singleton.1 hz]
          exact ⟨by have := hfl a (by simp); show a.length ≤ _; omega, by have := hfl b (by simp); show b.length ≤ _; omega, by have := hfl c (by simp); show c.length ≤ _; omega⟩)
      rw [el] at key
      exact key
    | a :: b :: c :: d :: q, hfl => exact Ev.now _
theorem parse_f (s : List UInt8) (hs : s.length ≤ 90000) : Ev (fun k => table_Parse.f k (toBA s)) (parT (parseL s)) := by
  simp only [table_Parse.f]
  refine Ev.bind (words_f 10 s (by omega)) ?_
  simp only [List.length_map]
  have hc := wordsL_count_le 10 s
  exact parse_l0 (wordsL 10 s) (by omega) (fun x hx => by have := wordsL_len_le 10 s x hx; omega) (wordsL 10 s) [] [] rfl (Nat.le_refl _) (by simp)

/-! ### Print -/
def lineL (r : R3) : List UInt8 := r.m ++ [32] ++ r.p ++ [32] ++ r.h ++ [10]
def printL (l : List R3) : List UInt8 := l.flatMap lineL
theorem printL_len (l : List R3) (h : ∀ r ∈ l, Small r) : (printL l).length ≤ l.length * 300003 := by
  induction l with
  | nil => simp [printL]
  | cons r q ih =>
    have h1 := h r (by simp)
    have h2 := ih (fun z hz => h z (by simp [hz]))
    rw [show printL (r :: q) = lineL r ++ printL q from rfl]
    unfold Small at h1
    simp only [lineL, List.length_append, List.length_cons, List.length_nil]; omega
theorem print_l0 (l : List R3) (hl : l.length ≤ 100000) (hs : ∀ r ∈ l, Small r) (post : List R3) : ∀ pre : List R3, l = pre ++ post →
    Ev (fun k => table_Print.l0 k (toBA (printL pre)) (l.map rT) (l.length : Int) (pre.length : Int)) (toBA (printL l)) := by
  induction post with
  | nil =>
    intro pre h
    obtain rfl : l = pre := by simpa using h
    refine Ev.step' ?_
    simp only [table_Print.l0, if_neg (show ¬ (l.length : Int) < (l.length : Int) by omega)]
    exact Ev.now _
  | cons r q ih =>
    intro pre h
    have hp : pre.length < l.length := by subst h; simp
    have hr : rd_T27 (l.map rT) (pre.length : Int) = rT r := by rw [h]; exact rd_mid _ _ _
    have hw : wrap64 ((pre.length : Int) + 1) = ((pre ++ [r]).length : Int) := by rw [w64 (by omega) (by omega)]; simp
    have hsr := hs r (by rw [h]; simp)
    have hpl := printL_len pre (fun z hz => hs z (by rw [h]; simp [hz]))
    unfold Small at hsr
    have s32 : (⟨#[32]⟩ : ByteArray) = toBA [32] := rfl
    have s10 : (⟨#[10]⟩ : ByteArray) = toBA [10] := rfl
    have key := ih (pre ++ [r]) (by simp [h])
    have e : printL (pre ++ [r]) = printL pre ++ (r.m ++ [32] ++ r.p ++ [32] ++ r.h ++ [10]) := by simp [printL, lineL]
    rw [e] at key
    refine Ev.step' ?_
    simp only [table_Print.l0, if_pos (show (pre.length : Int) < (l.length : Int) by omega), if_pos (show (0 : Int) ≤ (pre.length : Int) by omega), List.length_map, hr, rT, hw, s32, s10, toBA_append, toBA_size, List.length_append, List.length_singleton, if_pos (show r.m.length + 1 ≤ 9223372036854775807 by omega), if_pos (show r.m.length + 1 + r.p.length ≤ 9223372036854775807 by omega), if_pos (show r.m.length + 1 + r.p.length + 1 ≤ 9223372036854775807 by omega), if_pos (show r.m.length + 1 + r.p.length + 1 + r.h.length ≤ 9223372036854775807 by omega), if_pos (show r.m.length + 1 + r.p.length + 1 + r.h.length + 1 ≤ 9223372036854775807 by omega), if_pos (show (printL pre).length + (r.m.length + 1 + r.p.length + 1 + r.h.length + 1) ≤ 9223372036854775807 by omega)]
    simpa using key
theorem print_f (l : List R3) (hl : l.length ≤ 100000) (hs : ∀ r ∈ l, Small r) : Ev (fun k => table_Print.f k (l.map rT)) (toBA (printL l)) := by
  have := print_l0 l hl hs l [] rfl
  simp only [table_Print.f, List.length_map]
  exact this

/-! ### same, light -/
theorem same_l0 (a b : List R3) (hl : a.length ≤ 1000000) (he : a.length = b.length) (n : Nat) : ∀ i : Nat, i + n = a.length → (∀ j, j < i → a[j]? = b[j]?) →
    Ev (fun k => crossroadlaw07_same.l0 k (a.map rT) (b.map rT) (a.length : Int) (i : Int)) (decide (a = b)) := by
  induction n with
  | zero =>
    intro i hi hj
    have e : a = b := List.ext_getElem? fun j => by
      by_cases hlt : j < i
      · exact hj j hlt
      · rw [List.getElem?_eq_none (by omega), List.getElem?_eq_none (by omega)]
    refine Ev.step' ?_
    simp only [crossroadlaw07_same.l0, if_neg (show ¬ (i : Int) < (a.length : Int) by omega), decide_eq_true e]
    exact Ev.now true
  | succ n ih =>
    intro i hi hj
    have hw : wrap64 ((i : Int) + 1) = ((i + 1 : Nat) : Int) := by rw [w64 (by omega) (by omega)]; simp
    have ha : rd_T27 (a.map rT) (i : Int) = rT (a[i]'(by omega)) := by simp [rd_T27, List.getElem?_eq_getElem (show i < a.length by omega)]
    have hb : rd_T27 (b.map rT) (i : Int) = rT (b[i]'(by omega)) := by simp [rd_T27, List.getElem?_eq_getElem (show i < b.length by omega)]
    refine Ev.step' ?_
    simp only [crossroadlaw07_same.l0, if_pos (show (i : Int) < (a.length : Int) by omega), if_pos (show (0 : Int) ≤ (i : Int) by omega), List.length_map, if_pos (show (i : Int) < (b.length : Int) by omega), ha, hb, rT, toBA_toList, hw]
    by_cases e : a[i]'(by omega) = b[i]'(by omega)
    · have := ih (i + 1) (by omega) (fun j hj' => by
        by_cases h : j < i
        · exact hj j h
        · obtain rfl : j = i := by omega
          rw [List.getElem?_eq_getElem (by omega), List.getElem?_eq_getElem (by omega), e])
      simp only [e, beq_self_eq_true, Bool.not_true, Bool.or_self, Bool.false_eq_true, if_false]
      exact this
    · have hne : (!((a[i]'(by omega)).m == (b[i]'(by omega)).m) || (!((a[i]'(by omega)).p == (b[i]'(by omega)).p) || (!((a[i]'(by omega)).h == (b[i]'(by omega)).h)))) = true := by
        rcases Decidable.em ((a[i]'(by omega)).m = (b[i]'(by omega)).m) with h1 | h1
        · rcases Decidable.em ((a[i]'(by omega)).p = (b[i]'(by omega)).p) with h2 | h2
          · have h3 : ¬ (a[i]'(by omega)).h = (b[i]'(by omega)).h := fun h3 => e (by
              cases hA : a[i]'(by omega); cases hB : b[i]'(by omega)
              simp only [hA, hB] at h1 h2 h3
              subst h1 h2 h3; rfl)
            simp [h3]
          · simp [h2]
        · simp [h1]
      have hab : ¬ a = b := fun h => e (by subst h; rfl)
      simp only [hne, if_true, decide_eq_false hab]
      exact Ev.now false
theorem same_f (a b : List R3) (hl : a.length ≤ 1000000) : Ev (fun k => crossroadlaw07_same.f k (a.map rT) (b.map rT)) (decide (a = b)) := by
  simp only [crossroadlaw07_same.f, List.length_map]
  by_cases he : a.length = b.length
  · simp only [if_pos (show (a.length : Int) = (b.length : Int) by omega)]
    exact same_l0 a b hl he a.length 0 (by omega) (fun j h => by omega)
  · simp only [if_neg (show ¬ (a.length : Int) = (b.length : Int) by omega), decide_eq_false (show ¬ a = b from fun h => he (by rw [h]))]
    exact Ev.now false
end Go.Proofs.YtidkhbkndbnnjaaDoor.M
