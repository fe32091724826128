/- PathPatterns: patterns may be just as the document says. No condition. -/
import Derived.Test.YtnafapefbcmmbaaXPatM
import Derived.Test.YtnafapefbcmmbaaX15
set_option linter.unusedVariables false
set_option linter.unusedSimpArgs false
namespace Go.Proofs.Ytnafapefbcmmbaa.Pure
open Go.RowKit Go.Proofs.Ytnafapefbcmmbaa.X Go.Proofs.YtnafapefbcmmbaaW.PrintWords Go.Proofs.YtnafapefbcmmbaaW.PrintLast Go.Proofs.Ytnafapefbcmmbaa.M

theorem takeWhile_self {α : Type} (p : α → Bool) (l : List α) : (l.takeWhile p = l) ↔ ∀ x ∈ l, p x = true := by
  induction l with
  | nil => simp
  | cons a r ih =>
    by_cases h : p a = true
    · simp [h, ih]
    · simp [h]
/-- One word, or the first word is all: alike. -/
theorem no37_len (x : List UInt8) : ((wordsL 37 x).length : Int) == 1 ↔ no37 x = true := by
  rw [no37, decide_eq_true_iff, headD_words, takeWhile_self]
  have h := words_count 37 x []
  rw [show wordsL 37 x = wordsGo 37 [] x from rfl, h, beq_iff_eq]
  constructor
  · intro e c hc
    have : x.countP (fun c => (c.toNat : Int) = 37) = 0 := by omega
    have := List.countP_eq_zero.1 this c hc
    simpa using this
  · intro e
    have : x.countP (fun c => (c.toNat : Int) = 37) = 0 := List.countP_eq_zero.2 (fun c hc => by have := e c hc; simpa using this)
    omega
theorem no37_len' (x : List UInt8) : (((wordsL 37 x).length : Int) == 1) = no37 x := by
  rw [Bool.eq_iff_iff]; exact no37_len x
def wantGo : List (List UInt8) → Bool → List (List UInt8) → Bool
  | _, w, [] => w
  | names, w, x :: r =>
    if kindL x = 0 then wantGo names (w && (tokenL x && no37 x)) r
    else wantGo (x.tail :: names) (w && (tokenL x.tail && (!decide (x.tail ∈ names) && (decide (kindL x = 1) || decide (r = []))))) r
theorem wantGo_cons (names : List (List UInt8)) (w : Bool) (x : List UInt8) (r : List (List UInt8)) : wantGo names w (x :: r) = if kindL x = 0 then wantGo names (w && (tokenL x && no37 x)) r
    else wantGo (x.tail :: names) (w && (tokenL x.tail && (!decide (x.tail ∈ names) && (decide (kindL x = 1) || decide (r = []))))) r := by rw [wantGo]
theorem want_pat (l : List (List UInt8)) : ∀ names w, wantGo names w l = (w && patGo names l) := by
  induction l with
  | nil => intro names w; simp [wantGo, patGo]
  | cons x r ih =>
    intro names w
    rw [wantGo_cons, patGo_cons]
    rcases kindL_cases x with h | h | h
    · simp only [h, if_true, ih, Bool.and_assoc]
    · simp only [h, if_neg (show ¬ (1 : Int) = 0 by omega), if_neg (show ¬ ((1 : Int) = 2 ∧ r ≠ []) by omega), ih, decide_true, Bool.true_or, Bool.and_true, Bool.and_assoc]
    · simp only [h, if_neg (show ¬ (2 : Int) = 0 by omega), show ¬ (2 : Int) = 1 by omega, decide_false, Bool.false_or, ih, true_and]
      by_cases hr : r = []
      · simp [hr, Bool.and_assoc]
      · simp [hr]
/-- The map counts the names. -/
def Counts (m : List (ByteArray × Int)) (names : List (List UInt8)) : Prop := m.length ≤ names.length ∧ ∀ y, mapGet 0 m (toBA y) = (names.count y : Int)
theorem counts_put {m : List (ByteArray × Int)} {names : List (List UInt8)} (h : Counts m names) (y : List UInt8) : Counts ((toBA y, (names.count y : Int) + 1) :: m) (y :: names) := by
  refine ⟨by have := h.1; simp; omega, fun z => ?_⟩
  rw [mapGet]
  by_cases e : y = z
  · subst e; simp
  · rw [if_neg (fun e' => e (toBA_inj e')), h.2 z, List.count_cons_of_ne (by simpa using e)]
theorem cnt_ne (q : Nat) (h : 0 < q) : ¬ (q : Int) + 1 = 1 := by omega
theorem cnt_eq (q : Nat) (h : q = 0) : (q : Int) + 1 = 1 := by omega
section
theorem patterns_l1 (l : List (List UInt8)) (ok : Bool) (ps : List (List UInt8)) (hps : ps.length ≤ 100001) (hl : l = [] ∧ ok = false ∨ l = ps) (post : List (List UInt8)) : ∀ pre : List (List UInt8), l = pre ++ post →
    Ev (fun k => crossroadlaw06_PathPatterns.l1 k (l.map toBA) ok (ps.map toBA) (l.length : Int) (pre.length : Int)) true := by
  induction post with
  | nil =>
    intro pre h
    have hp : pre.length = l.length := by subst h; simp
    refine Ev.step' ?_
    simp only [crossroadlaw06_PathPatterns.l1, if_neg (show ¬ (pre.length : Int) < (l.length : Int) by omega), List.length_map]
    rcases hl with ⟨_, rfl⟩ | rfl
    · simp only [Bool.false_eq_true, if_false]; exact Ev.now true
    · cases ok with
      | false => simp only [Bool.false_eq_true, if_false]; exact Ev.now true
      | true => simp only [if_true]; exact Ev.const (by simp)
  | cons x r ih =>
    intro pre h
    have hp : pre.length < l.length := by subst h; simp
    rcases hl with ⟨h0, _⟩ | e
    · rw [h0] at h; simp at h
    · have hw : wrap64 ((pre.length : Int) + 1) = ((pre ++ [x]).length : Int) := by rw [w64 (by rw [← e] at hps; omega) (by rw [← e] at hps; omega)]; simp
      have key := ih (pre ++ [x]) (by simp [h])
      rw [← e] at key ⊢
      refine Ev.step' ?_
      simp only [crossroadlaw06_PathPatterns.l1, if_pos (show (pre.length : Int) < (l.length : Int) by omega), if_pos (show (0 : Int) ≤ (pre.length : Int) by omega), List.length_map, if_true, hw]
      exact key
theorem patterns_j4 (l : List (List UInt8)) (ok : Bool) (ps : List (List UInt8)) (hps : ps.length ≤ 100001) (hok : ok = (patGo [] ps && decide (ps.length ≤ 8))) (hl : l = [] ∧ ok = false ∨ l = ps) (w : Bool) (hw : w = ok) : Ev (fun k => crossroadlaw06_PathPatterns.j4 k (l.map toBA) ok w (ps.map toBA)) true := by
  subst hw
  refine Ev.step' ?_
  have e : (w != w) = false := by simp
  simp only [crossroadlaw06_PathPatterns.j4, e, Bool.false_eq_true, if_false, List.length_map]
  exact patterns_l1 l w ps hps hl l [] rfl
set_option maxHeartbeats 2000000 in
theorem patterns_l0 (l : List (List UInt8)) (ok : Bool) (ps : List (List UInt8)) (hps : ps.length ≤ 100001) (hx : ∀ x ∈ ps, x.length ≤ 100000) (hok : ok = (patGo [] ps && decide (ps.length ≤ 8))) (hl : l = [] ∧ ok = false ∨ l = ps) (post : List (List UInt8)) : ∀ (pre names : List (List UInt8)) (w : Bool) (m : List (ByteArray × Int)), ps = pre ++ post → names.length ≤ pre.length → Counts m names → wantGo names w post = patGo [] ps →
    Ev (fun k => crossroadlaw06_PathPatterns.l0 k (l.map toBA) ok w (ps.map toBA) m (ps.map toBA) (ps.length : Int) (pre.length : Int)) true := by
  induction post with
  | nil =>
    intro pre names w m h hn hm hw
    have hp : pre.length = ps.length := by subst h; simp
    rw [wantGo] at hw
    refine Ev.step' ?_
    simp only [crossroadlaw06_PathPatterns.l0, if_neg (show ¬ (pre.length : Int) < (ps.length : Int) by omega), List.length_map]
    have e8 : decide ((ps.length : Int) ≤ 8) = decide (ps.length ≤ 8) := by by_cases h8 : ps.length ≤ 8 <;> simp [h8] <;> omega
    cases w with
    | true =>
      simp only [if_true, e8]
      exact patterns_j4 l ok ps hps hok hl _ (by rw [hok, ← hw]; simp)
    | false =>
      simp only [Bool.false_eq_true, if_false]
      exact patterns_j4 l ok ps hps hok hl _ (by rw [hok, ← hw]; simp)
  | cons x r ih =>
    intro pre names w m h hn hm hw
    have hp : pre.length < ps.length := by subst h; simp
    have hpl : ps.length = pre.length + 1 + r.length := by subst h; simp; omega
    have hr : rdOf ByteArray.empty (ps.map toBA) (pre.length : Int) = toBA x := by rw [h]; exact rdOf_mid _ _ _
    have hwr : wrap64 ((pre.length : Int) + 1) = ((pre ++ [x]).length : Int) := by rw [w64 (by omega) (by omega)]; simp
    have hxl := hx x (by rw [h]; simp)
    have htl : x.tail.length ≤ x.length := by simp
    have next (names' : List (List UInt8)) (w' : Bool) (m' : List (ByteArray × Int)) (h1 : names'.length ≤ pre.length + 1) (h2 : Counts m' names') (h3 : wantGo names' w' r = patGo [] ps) :
        Ev (fun k => crossroadlaw06_PathPatterns.l0 k (l.map toBA) ok w' (ps.map toBA) m' (ps.map toBA) (ps.length : Int) ((pre ++ [x]).length : Int)) true :=
      ih (pre ++ [x]) names' w' m' (by simp [h]) (by simpa using h1) h2 h3
    rw [wantGo_cons] at hw
    refine Ev.step' ?_
    simp only [crossroadlaw06_PathPatterns.l0, if_pos (show (pre.length : Int) < (ps.length : Int) by omega), if_pos (show (0 : Int) ≤ (pre.length : Int) by omega), List.length_map, hr, toBA_toList, toBA_size, hwr]
    cases x with
    | nil =>
      simp only [if_true]
      have e : (w && (tokenL [] && no37 [])) = false := by simp [tokenL]
      rw [if_pos (show kindL [] = 0 from rfl), e] at hw
      exact next names false m (by omega) hm hw
    | cons c t =>
      have hb : bt (toBA (c :: t)) 0 = (c.toNat : Int) := bt_mid [] t c
      have hpos : (0 : Int) < ((c :: t).length : Int) := by simp only [List.length_cons]; omega
      have hpos1 : (1 : Int) ≤ ((c :: t).length : Int) := by simp only [List.length_cons]; omega
      have hcut : (toBA (c :: t)).extract 1 (c :: t).length = toBA t := tail_cut c t
      have htl2 : t.length ≤ 100000 := by simp only [List.length_cons] at hxl; omega
      simp only [if_neg (show ¬ (c :: t) = ([] : List UInt8) by simp), if_pos hpos, hb]
      -- a name's round
      have name (hk : kindL (c :: t) ≠ 0) (hc : c.toNat = 58 ∨ c.toNat = 42) : Ev (fun k => crossroadlaw06_PathPatterns.j3 k (l.map toBA) ok w (ps.map toBA) m (pre.length : Int) (toBA (c :: t)) (ps.map toBA) (ps.length : Int) (pre.length : Int) true) true := by
        rw [if_neg hk] at hw
        change wantGo (t :: names) (w && (tokenL t && (!decide (t ∈ names) && (decide (kindL (c :: t) = 1) || decide (r = []))))) r = patGo [] ps at hw
        have hcnt : names.count t ≤ names.length := List.count_le_length
        have hm2 := counts_put hm t
        have hwrap : wrap64 ((names.count t : Int) + 1) = (names.count t : Int) + 1 := w64 (by omega) (by omega)
        have hml : m.length < 9223372036854775807 := by have := hm.1; omega
        have hget : mapGet 0 ((toBA t, (names.count t : Int) + 1) :: m) (toBA t) = (names.count t : Int) + 1 := by simp [mapGet]
        refine Ev.step' ?_
        simp only [crossroadlaw06_PathPatterns.j3, if_true, toBA_size, if_pos hpos1, hcut, if_pos (show t.length ≤ 9223372036854775807 by omega), if_pos hml, hm.2 t, hwrap, hwr, hget, if_pos hpos, hb, List.length_map]
        have bad (e : (w && (tokenL t && (!decide (t ∈ names) && (decide (kindL (c :: t) = 1) || decide (r = []))))) = false) :
            Ev (fun k => crossroadlaw06_PathPatterns.l0 k (l.map toBA) ok false (ps.map toBA) ((toBA t, (names.count t : Int) + 1) :: m) (ps.map toBA) (ps.length : Int) ((pre ++ [c :: t]).length : Int)) true :=
          next (t :: names) false _ (by simp; omega) hm2 (by rw [← hw, e])
        cases w with
        | false => simp only [Bool.false_eq_true, if_false]; exact bad (by simp)
        | true =>
          simp only [if_true]
          refine Ev.bind (token_f t (by omega)) ?_
          cases ht : tokenL t with
          | false => simp only [Bool.false_eq_true, if_false]; exact bad (by simp [ht])
          | true =>
            simp only [if_true]
            by_cases hmem : t ∈ names
            · have hne := cnt_ne (names.count t) (List.count_pos_iff.2 hmem)
              simp only [if_neg hne]
              exact bad (by simp [hmem])
            · have heq := cnt_eq (names.count t) (List.count_eq_zero.2 hmem)
              simp only [if_pos heq]
              by_cases h58 : c.toNat = 58
              · have hk1 : kindL (c :: t) = 1 := by simp [kindL, h58]
                simp only [if_pos (show (c.toNat : Int) = 58 by omega)]
                exact next (t :: names) true _ (by simp; omega) hm2 (by rw [← hw]; simp [ht, hmem, hk1])
              · have hk2 : kindL (c :: t) = 2 := by rcases hc with h | h; · exact absurd h h58
                                                    simp [kindL, h]
                have e : ((pre.length : Int) == wrap64 ((ps.length : Int) - 1)) = decide (r = []) := by
                  rw [w64 (x := (ps.length : Int) - 1) (by omega) (by omega), Bool.eq_iff_iff, beq_iff_eq, decide_eq_true_iff, ← List.length_eq_zero_iff]
                  omega
                simp only [if_neg (show ¬ (c.toNat : Int) = 58 by omega), e]
                exact next (t :: names) _ _ (by simp; omega) hm2 (by rw [← hw]; simp [ht, hmem, hk2])
      by_cases h58 : c.toNat = 58
      · simp only [if_pos (show (c.toNat : Int) = 58 by omega)]
        exact name (by simp [kindL, h58]) (.inl h58)
      · simp only [if_neg (show ¬ (c.toNat : Int) = 58 by omega)]
        by_cases h42 : c.toNat = 42
        · have e : ((c.toNat : Int) == 42) = true := by rw [h42]; rfl
          rw [e]
          exact name (by simp [kindL, h58, h42]) (.inr h42)
        · have e : ((c.toNat : Int) == 42) = false := beq_eq_false_iff_ne.2 (by omega)
          rw [e]
          rw [if_pos (show kindL (c :: t) = 0 by simp [kindL, h58, h42])] at hw
          refine Ev.step' ?_
          simp only [crossroadlaw06_PathPatterns.j3, Bool.false_eq_true, if_false, hwr]
          cases w with
          | false => simp only [Bool.false_eq_true, if_false]; exact next names false m (by omega) hm (by rw [← hw]; simp)
          | true =>
            simp only [if_true]
            refine Ev.bind (token_f (c :: t) (by omega)) ?_
            cases ht : tokenL (c :: t) with
            | false => simp only [Bool.false_eq_true, if_false]; exact next names false m (by omega) hm (by rw [← hw]; simp [ht])
            | true =>
              simp only [if_true]
              refine Ev.bind (words_f 37 (c :: t) (by omega)) ?_
              simp only [List.length_map, no37_len']
              exact next names _ m (by omega) hm (by rw [← hw]; simp [ht])
end
theorem PathPatterns : crossroadlaw06_PathPatterns.Pure := by
  intro a0 s0
  obtain ⟨s, rfl⟩ := exBA a0
  refine Ev.rounds (g := fun k => crossroadlaw06_PathPatterns.f k (toBA s)) ?_
  simp only [crossroadlaw06_PathPatterns.f, light_f, Option.bind_some]
  refine Ev.bind fit_f ?_
  simp only [if_true]
  by_cases hs : s.length ≤ 600
  · simp only [decide_eq_true hs, if_true]
    refine Ev.bind (pat_f s (by omega)) ?_
    simp only [segsT, toBA_toList, toBA_size]
    have hempty : Counts [] [] := ⟨Nat.le_refl _, fun y => by simp [mapGet]⟩
    have none0 (hp : patL s = ([], false)) : Ev (fun k => crossroadlaw06_PathPatterns.j0 k (toBA s) ((patL s).1.map toBA) (patL s).2 false) true := by
      rw [hp]
      refine Ev.step' ?_
      simp only [crossroadlaw06_PathPatterns.j0, Bool.false_eq_true, if_false]
      refine Ev.step' ?_
      simp only [crossroadlaw06_PathPatterns.j1]
      refine Ev.step' ?_
      simp only [crossroadlaw06_PathPatterns.l0, List.length_nil, if_neg (show ¬ (0 : Int) < ((0 : Nat) : Int) by omega), Bool.false_eq_true, if_false]
      refine Ev.step' ?_
      have e : (false != false) = false := rfl
      simp only [crossroadlaw06_PathPatterns.j4, e, Bool.false_eq_true, if_false]
      refine Ev.step' ?_
      simp only [crossroadlaw06_PathPatterns.l1, List.map_nil, List.length_nil, if_neg (show ¬ (0 : Int) < ((0 : Nat) : Int) by omega), Bool.false_eq_true, if_false]
      exact Ev.now true
    by_cases h1 : s = [47]
    · subst h1
      have e : patL [47] = ([], true) := by decide
      simp only [if_true, e]
      exact Ev.const (by simp)
    · simp only [if_neg h1]
      by_cases hg : s.length > 1
      · simp only [if_pos (show (s.length : Int) > 1 by omega), if_pos (show (0 : Int) < (s.length : Int) by omega)]
        cases s with
        | nil => simp at hg
        | cons c t =>
          have hb : bt (toBA (c :: t)) 0 = (c.toNat : Int) := bt_mid [] t c
          rw [hb]
          by_cases hc : c.toNat = 47
          · have e : ((c.toNat : Int) == 47) = true := by rw [hc]; rfl
            rw [e]
            refine Ev.step' ?_
            simp only [crossroadlaw06_PathPatterns.j0, if_true, toBA_size, if_pos (show (1 : Int) ≤ ((c :: t).length : Int) by omega), tail_cut]
            simp only [List.length_cons] at hs
            refine Ev.bind (words_f 47 t (by omega)) ?_
            have hcl := wordsL_count_le 47 t
            refine Ev.step' ?_
            simp only [crossroadlaw06_PathPatterns.j1, List.length_map]
            rw [patL_cons c t hc, if_neg h1]
            have hx : ∀ x ∈ wordsL 47 t, x.length ≤ 100000 := fun x hx => by have := wordsL_len_le 47 t x hx; omega
            by_cases hgo : patGo [] (wordsL 47 t) = true
            · rw [if_pos hgo]
              exact patterns_l0 (wordsL 47 t) (decide ((wordsL 47 t).length ≤ 8)) (wordsL 47 t) (by omega) hx (by rw [hgo]; simp) (.inr rfl) (wordsL 47 t) [] [] true [] rfl (Nat.le_refl _) hempty (by rw [want_pat]; simp)
            · rw [if_neg hgo]
              have hgo' : patGo [] (wordsL 47 t) = false := by simpa using hgo
              exact patterns_l0 [] false (wordsL 47 t) (by omega) hx (by rw [hgo']; simp) (.inl ⟨rfl, rfl⟩) (wordsL 47 t) [] [] true [] rfl (Nat.le_refl _) hempty (by rw [want_pat]; simp)
          · have e : ((c.toNat : Int) == 47) = false := beq_eq_false_iff_ne.2 (by omega)
            rw [e]
            exact none0 (patL_no c t hc)
      · simp only [if_neg (show ¬ (s.length : Int) > 1 by omega)]
        cases s with
        | nil => exact none0 (by simp [patL, slash1])
        | cons c t =>
          refine none0 (patL_no c t (fun hc => h1 ?_))
          have ht : t = [] := by simp at hg; exact hg
          subst ht
          have : c = 47 := u8_inj (by rw [hc]; rfl)
          rw [this]
  · simp only [decide_eq_false hs, Bool.false_eq_true, if_false]
    exact Ev.now true
end Go.Proofs.Ytnafapefbcmmbaa.Pure
