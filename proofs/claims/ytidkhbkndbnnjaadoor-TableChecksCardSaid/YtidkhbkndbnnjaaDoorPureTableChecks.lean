/- TableChecks: routes may stand beside one another just if each may be, they are not too many, and no two have one method and shape. No condition. -/
import Derived.Test.YtidkhbkndbnnjaaDoorXRouteF
import Derived.Test.YtidkhbkndbnnjaaDoorX15
set_option linter.unusedVariables false
set_option linter.unusedSimpArgs false
namespace Go.Proofs.YtidkhbkndbnnjaaDoor.Pure
open Go.RowKit Go.Proofs.YtidkhbkndbnnjaaDoor.X Go.Proofs.YtidkhbkndbnnjaaDoorW.PrintWords Go.Proofs.YtidkhbkndbnnjaaDoorW.PrintLast Go.Proofs.YtidkhbkndbnnjaaDoor.M

def pok (r : R3) : Bool := (patL r.p).2
def meets (r q : R3) : Bool := pok r && (pok q && (decide (q.m = r.m) && decide (shapeL (patL r.p).1 = shapeL (patL q.p).1)))
def innerW : Int → R3 → List R3 → Int
  | w, _, [] => w
  | w, r, q :: l => innerW (if (meets r q && decide (w = 0)) = true then 3 else w) r l
def outerW : Int → List R3 → List R3 → Int
  | w, _, [] => w
  | w, pre, r :: q => outerW (innerW w r pre) (pre ++ [r]) q
theorem inner3 (r : R3) (l : List R3) : innerW 3 r l = 3 := by
  induction l with
  | nil => rfl
  | cons q l ih => rw [innerW]; simp [ih]
theorem inner0 (r : R3) (l : List R3) : innerW 0 r l = if l.any (meets r) = true then 3 else 0 := by
  induction l with
  | nil => rfl
  | cons q l ih =>
    rw [innerW, List.any_cons]
    cases h : meets r q with
    | true => simp [inner3]
    | false => simp [ih]
theorem outer3 (l : List R3) : ∀ pre, outerW 3 pre l = 3 := by
  induction l with
  | nil => intro pre; rfl
  | cons r q ih => intro pre; rw [outerW, inner3]; exact ih _
theorem outer_clash (l : List R3) : ∀ (pre : List R3) (seen : List (List UInt8 × List UInt8)), (∀ r ∈ pre ++ l, pok r = true) → (∀ x, x ∈ seen ↔ x ∈ pre.map keyL) → outerW 0 pre l = clashGo seen l := by
  induction l with
  | nil => intro pre seen _ _; rfl
  | cons r q ih =>
    intro pre seen hok hs
    rw [outerW, inner0, clashGo]
    have hr := hok r (by simp)
    have e : (pre.any (meets r) = true) ↔ keyL r ∈ seen := by
      rw [hs, List.any_eq_true, List.mem_map]
      constructor
      · rintro ⟨x, hx, hm⟩
        unfold meets at hm
        simp only [Bool.and_eq_true, decide_eq_true_eq] at hm
        exact ⟨x, hx, by unfold keyL; rw [hm.2.2.1, hm.2.2.2]⟩
      · rintro ⟨x, hx, hk⟩
        unfold keyL at hk
        simp only [Prod.mk.injEq] at hk
        refine ⟨x, hx, ?_⟩
        unfold meets
        simp [hr, hok x (by simp [hx]), hk.1, hk.2]
    by_cases h : keyL r ∈ seen
    · rw [if_pos h, if_pos (e.2 h)]; exact outer3 _ _
    · rw [if_neg h, if_neg (fun hh => h (e.1 hh))]
      exact ih (pre ++ [r]) (keyL r :: seen) (by simpa using hok) (fun x => by
        rw [List.mem_cons, List.map_append, List.mem_append, hs]
        simp [or_comm])
def wantL (l : List R3) : Int := if l.length > 24 then 2 else outerW 0 [] l
theorem want_check (l : List R3) (h : l.all rightL = true) : wantL l = checkL l := by
  have hok : ∀ r ∈ l, pok r = true := fun r hr => by
    have := List.all_eq_true.1 h r hr
    unfold rightL at this
    simp only [Bool.and_eq_true] at this
    exact this.1
  unfold wantL checkL
  rw [if_pos h, outer_clash l [] [] (by simpa using hok) (by simp)]
/-- What is wanted behind the first routes have been looked at. -/
def afterL (pre : List R3) (w : Int) : Int := if pre.all rightL = true then w else 1
theorem checks_l2 (l : List R3) (hl : l.length ≤ 60) (hs : ∀ r ∈ l, Small r) (post : List R3) : ∀ pre : List R3, l = pre ++ post →
    Ev (fun k => crossroadlaw07_TableChecks.l2 k (l.map rT) (afterL pre (wantL l)) (l.map rT) (l.length : Int) (pre.length : Int)) true := by
  induction post with
  | nil =>
    intro pre h
    obtain rfl : l = pre := by simpa using h
    refine Ev.step' ?_
    simp only [crossroadlaw07_TableChecks.l2, if_neg (show ¬ (l.length : Int) < (l.length : Int) by omega)]
    refine Ev.bind (check_f l (by omega) hs) ?_
    have e : checkL l = afterL l (wantL l) := by
      unfold afterL
      by_cases ha : l.all rightL = true
      · rw [if_pos ha, want_check l ha]
      · rw [if_neg ha, checkL, if_neg ha]
    rw [e]
    exact Ev.const (by simp)
  | cons r q ih =>
    intro pre h
    have hp : pre.length < l.length := by subst h; simp
    have hr : rd_T27 (l.map rT) (pre.length : Int) = rT r := by rw [h]; exact rd_mid _ _ _
    have hw : wrap64 ((pre.length : Int) + 1) = ((pre ++ [r]).length : Int) := by rw [w64 (by omega) (by omega)]; simp
    have hsr := hs r (by rw [h]; simp)
    have key := ih (pre ++ [r]) (by simp [h])
    have ea : afterL (pre ++ [r]) (wantL l) = if rightL r = true then afterL pre (wantL l) else 1 := by
      unfold afterL
      rw [List.all_append]
      cases hr' : rightL r <;> cases ha : pre.all rightL <;> simp [hr']
    rw [ea] at key
    -- behind the handlers' names
    have j5 : Ev (fun k => crossroadlaw07_TableChecks.j5 k (l.map rT) (afterL pre (wantL l)) (l.map rT) (l.length : Int) (pre.length : Int) false (toBA r.m) (toBA r.p) (toBA r.h)) true := by
      refine Ev.step' ?_
      simp only [crossroadlaw07_TableChecks.j5, Bool.false_eq_true, if_false, hw]
      refine Ev.bind (right_f r hsr) ?_
      cases hr' : rightL r with
      | true => simp only [hr', if_true] at key ⊢; exact key
      | false => simp only [hr', Bool.false_eq_true, if_false] at key ⊢; exact key
    have l3 (rest : List (List UInt8)) : ∀ don : List (List UInt8), hlists = don ++ rest →
        Ev (fun k => crossroadlaw07_TableChecks.l3 k (l.map rT) (afterL pre (wantL l)) (pok r) (don.any fun x => x == r.h) (l.map rT) (l.length : Int) (pre.length : Int) (hlists.map toBA) (8 : Int) (don.length : Int) (toBA r.m) (toBA r.p) (toBA r.h)) true := by
      induction rest with
      | nil =>
        intro don hd
        have hdl : don.length = 8 := by have := congrArg List.length hd; simpa [hlists] using this.symm
        have hdh : (don.any fun x => x == r.h) = handL r.h := by rw [handL, hd, List.append_nil]
        rw [hdh]
        refine Ev.step' ?_
        have e1 : (handL r.h != handL r.h) = false := by simp
        simp only [crossroadlaw07_TableChecks.l3, if_neg (show ¬ (don.length : Int) < 8 by omega), handler_f, Option.bind_some, e1, Bool.false_eq_true, if_false]
        refine Ev.bind (right_f r hsr) ?_
        have er : rightL r = (pok r && (tokenL r.m && handL r.h)) := rfl
        cases hpk : pok r with
        | false =>
          rw [hpk] at er
          have e2 : (rightL r != false) = false := by rw [er]; rfl
          simp only [Bool.false_eq_true, if_false, e2]
          exact j5
        | true =>
          rw [hpk] at er
          simp only [if_true]
          cases hh : handL r.h with
          | false =>
            have e2 : (rightL r != false) = false := by rw [er, hh]; simp
            simp only [Bool.false_eq_true, if_false, e2]
            exact j5
          | true =>
            simp only [if_true]
            refine Ev.bind (token_f r.m (by have := hsr.1; omega)) ?_
            have e2 : (rightL r != tokenL r.m) = false := by rw [er, hh]; simp
            simp only [e2]
            exact j5
      | cons x rest ih3 =>
        intro don hd
        have hdl : don.length + 1 + rest.length = 8 := by have := congrArg List.length hd; simp [hlists] at this; omega
        have hrd : rdOf ByteArray.empty (hlists.map toBA) (don.length : Int) = toBA x := by rw [hd]; exact rdOf_mid _ _ _
        have hwd : wrap64 ((don.length : Int) + 1) = ((don ++ [x]).length : Int) := by rw [w64 (by omega) (by omega)]; simp
        have k3 := ih3 (don ++ [x]) (by simp [hd])
        rw [List.any_append] at k3
        refine Ev.step' ?_
        simp only [crossroadlaw07_TableChecks.l3, if_pos (show (don.length : Int) < 8 by omega), if_pos (show (0 : Int) ≤ (don.length : Int) by omega), List.length_map, if_pos (show (don.length : Int) < (hlists.length : Int) by show (don.length : Int) < ((8 : Nat) : Int); omega), hrd, hwd, toBA_toList]
        cases hda : don.any (fun x => x == r.h) with
        | true => simp only [hda, Bool.true_or, if_true] at k3 ⊢; exact k3
        | false =>
          simp only [hda, Bool.false_or, Bool.false_eq_true, if_false, List.any_cons, List.any_nil, Bool.or_false] at k3 ⊢
          exact k3
    refine Ev.step' ?_
    simp only [crossroadlaw07_TableChecks.l2, if_pos (show (pre.length : Int) < (l.length : Int) by omega), if_pos (show (0 : Int) ≤ (pre.length : Int) by omega), List.length_map, hr, rT]
    refine Ev.bind (pat_f r.p hsr.2.1) ?_
    simp only [Option.bind_some]
    exact l3 hlists [] rfl
theorem checks_in (l : List R3) (hl : l.length ≤ 60) (hs : ∀ r ∈ l, Small r) (r : R3) (hsr : Small r) (i : Nat) (hi : i < l.length) (n : Nat) : ∀ (j : Nat) (w : Int), j + n = i → w = 0 ∨ w = 3 →
    (∀ w', w' = innerW w r ((l.take i).drop j) → Ev (fun k => crossroadlaw07_TableChecks.l0 k (l.map rT) w' (l.map rT) (l.length : Int) ((i + 1 : Nat) : Int)) true) →
    Ev (fun k => crossroadlaw07_TableChecks.l1 k (l.map rT) w ((patL r.p).1.map toBA) (patL r.p).2 (l.map rT) (l.length : Int) (i : Int) (i : Int) (j : Int) (toBA r.m) (toBA r.p) (toBA r.h)) true := by
  have hwi : wrap64 ((i : Int) + 1) = ((i + 1 : Nat) : Int) := by rw [w64 (by omega) (by omega)]; simp
  induction n with
  | zero =>
    intro j w hj hw3 hn
    obtain rfl : j = i := by omega
    refine Ev.step' ?_
    simp only [crossroadlaw07_TableChecks.l1, if_neg (show ¬ (j : Int) < (j : Int) by omega), hwi]
    exact hn w (by rw [List.drop_eq_nil_of_le (by simp; omega)]; rfl)
  | succ n ih =>
    intro j w hj hw3 hn
    have hjl : j < l.length := by omega
    have hq : rd_T27 (l.map rT) (j : Int) = rT l[j] := by simp [rd_T27, List.getElem?_eq_getElem hjl]
    have hwj : wrap64 ((j : Int) + 1) = ((j + 1 : Nat) : Int) := by rw [w64 (by omega) (by omega)]; simp
    have hsq := hs l[j] (List.getElem_mem _)
    have ed : (l.take i).drop j = l[j] :: (l.take i).drop (j + 1) := by
      rw [List.drop_eq_getElem_cons (by simp; omega)]
      simp
    have b1 := patL_bd r.p
    have b2 := patL_bd l[j].p
    have x1 : ∀ x ∈ (patL r.p).1, x.length ≤ 100000 := fun x hx => by have := b1.2 x hx; have := hsr.2.1; omega
    have x2 : ∀ x ∈ (patL l[j].p).1, x.length ≤ 100000 := fun x hx => by have := b2.2 x hx; have := hsq.2.1; omega
    have go (w1 : Int) (h1 : w1 = if (meets r l[j] && decide (w = 0)) = true then 3 else w) :
        Ev (fun k => crossroadlaw07_TableChecks.l1 k (l.map rT) w1 ((patL r.p).1.map toBA) (patL r.p).2 (l.map rT) (l.length : Int) (i : Int) (i : Int) ((j + 1 : Nat) : Int) (toBA r.m) (toBA r.p) (toBA r.h)) true := by
      refine ih (j + 1) w1 (by omega) (by rw [h1]; split; exact .inr rfl; exact hw3) (fun w' hw' => hn w' ?_)
      rw [hw', h1, ed, innerW]
    refine Ev.step' ?_
    simp only [crossroadlaw07_TableChecks.l1, if_pos (show (j : Int) < (i : Int) by omega), if_pos (show (0 : Int) ≤ (j : Int) by omega), List.length_map, if_pos (show (j : Int) < (l.length : Int) by omega), hq, rT, hwj, toBA_toList]
    refine Ev.bind (pat_f l[j].p hsq.2.1) ?_
    simp only [segsT]
    rcases Bool.eq_false_or_eq_true (patL r.p).2 with h1 | h1
    · rcases Bool.eq_false_or_eq_true (patL l[j].p).2 with h2 | h2
      · simp only [h1, h2, if_true]
        rw [h1] at go
        by_cases h3 : l[j].m = r.m
        · simp only [if_pos h3]
          refine Ev.bind (shape_f (patL r.p).1 (by have := hsr.2.1; omega) x1) ?_
          refine Ev.bind (shape_f (patL l[j].p).1 (by have := hsq.2.1; omega) x2) ?_
          simp only [toBA_toList]
          by_cases h4 : shapeL (patL r.p).1 = shapeL (patL l[j].p).1
          · simp only [if_pos h4]
            have hm : meets r l[j] = true := by simp [meets, pok, h1, h2, h3, h4]
            rcases hw3 with rfl | rfl
            · simp only [if_true]
              exact go 3 (by simp [hm])
            · simp only [if_neg (show ¬ (3 : Int) = 0 by omega)]
              exact go 3 (by simp)
          · simp only [if_neg h4]
            exact go w (by simp [meets, h4])
        · simp only [if_neg h3]
          exact go w (by simp [meets, h3])
      · simp only [h1, h2, if_true, Bool.false_eq_true, if_false]
        rw [h1] at go
        exact go w (by simp [meets, pok, h2])
    · simp only [h1, Bool.false_eq_true, if_false]
      rw [h1] at go
      exact go w (by simp [meets, pok, h1])
theorem checks_l0 (l : List R3) (hl : l.length ≤ 60) (hs : ∀ r ∈ l, Small r) (post : List R3) : ∀ (pre : List R3) (w : Int), l = pre ++ post → w = 0 ∨ w = 3 → outerW w pre post = outerW 0 [] l →
    Ev (fun k => crossroadlaw07_TableChecks.l0 k (l.map rT) w (l.map rT) (l.length : Int) (pre.length : Int)) true := by
  induction post with
  | nil =>
    intro pre w h hw hwant
    obtain rfl : l = pre := by simpa using h
    have key := checks_l2 l hl hs l [] rfl
    refine Ev.step' ?_
    simp only [crossroadlaw07_TableChecks.l0, if_neg (show ¬ (l.length : Int) < (l.length : Int) by omega), List.length_map]
    have ew : w = outerW 0 [] l := hwant
    by_cases h24 : l.length > 24
    · have e : afterL [] (wantL l) = 2 := by simp [afterL, wantL, h24]
      rw [e] at key
      simp only [if_pos (show (l.length : Int) > 24 by omega)]
      refine Ev.step' ?_
      simp only [crossroadlaw07_TableChecks.j2, List.length_map]
      exact key
    · have e : afterL [] (wantL l) = w := by simp [afterL, wantL, h24, ← ew]
      rw [e] at key
      simp only [if_neg (show ¬ (l.length : Int) > 24 by omega)]
      refine Ev.step' ?_
      simp only [crossroadlaw07_TableChecks.j2, List.length_map]
      exact key
  | cons r q ih =>
    intro pre w h hw hwant
    have hp : pre.length < l.length := by subst h; simp
    have hr : rd_T27 (l.map rT) (pre.length : Int) = rT r := by rw [h]; exact rd_mid _ _ _
    have hsr := hs r (by rw [h]; simp)
    have htk : l.take pre.length = pre := by rw [h]; simp
    have step (w' : Int) (hw' : w' = innerW w r pre) : Ev (fun k => crossroadlaw07_TableChecks.l0 k (l.map rT) w' (l.map rT) (l.length : Int) ((pre.length + 1 : Nat) : Int)) true := by
      have h03 : w' = 0 ∨ w' = 3 := by
        rw [hw']
        rcases hw with rfl | rfl
        · rw [inner0]; split; exact .inr rfl; exact .inl rfl
        · rw [inner3]; exact .inr rfl
      have := ih (pre ++ [r]) w' (by simp [h]) h03 (by rw [hw']; exact hwant)
      rwa [show ((pre ++ [r]).length : Int) = ((pre.length + 1 : Nat) : Int) by simp] at this
    refine Ev.step' ?_
    simp only [crossroadlaw07_TableChecks.l0, if_pos (show (pre.length : Int) < (l.length : Int) by omega), if_pos (show (0 : Int) ≤ (pre.length : Int) by omega), List.length_map, hr, rT]
    refine Ev.bind (pat_f r.p hsr.2.1) ?_
    simp only [segsT]
    -- the routes ahead of this one
    have inner := checks_in l hl hs r hsr pre.length hp pre.length 0 w (by omega) hw (fun w' hw' => step w' (by rw [hw', htk, List.drop_zero]))
    exact inner
theorem TableChecks (l0 : List S27) (hz : l0.length * Tryd.prog.bytesOf 27 ≤ 140737488351232 ∧ ∀ x ∈ l0, x.f0.size ≤ 140737488351232 ∧ x.f1.size ≤ 140737488351232 ∧ x.f2.size ≤ 140737488351232) : ∃ k, crossroadlaw07_TableChecks.f k l0 = some true := by
  obtain ⟨l, rfl⟩ := exRs l0
  have hb : Tryd.prog.bytesOf 27 = 48 := by kernel_rfl
  have hlen := hz.1
  rw [hb, List.length_map] at hlen
  have hfit : ∀ r ∈ l, Fits r := fun r hr => by
    have := hz.2 (rT r) (List.mem_map_of_mem hr)
    simpa [rT, Fits] using this
  refine Ev.rounds (g := fun k => crossroadlaw07_TableChecks.f k (l.map rT)) ?_
  simp only [crossroadlaw07_TableChecks.f, List.length_map]
  refine Ev.bind fit_f ?_
  simp only [if_true]
  refine Ev.bind (light_f l (by omega)) ?_
  cases hli : lightL l with
  | false => simp only [Bool.false_eq_true, if_false]; exact Ev.now true
  | true =>
    obtain ⟨h60, h4000⟩ := light_small l hfit hli
    have hs : ∀ r ∈ l, Small r := fun r hr => small_of r (h4000 r hr)
    simp only [if_true]
    exact checks_l0 l h60 hs l [] 0 rfl (.inl rfl) rfl
end Go.Proofs.YtidkhbkndbnnjaaDoor.Pure
