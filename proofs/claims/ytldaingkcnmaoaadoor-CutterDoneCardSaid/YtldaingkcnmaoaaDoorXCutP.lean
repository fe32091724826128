-- Made smaller by wip/squeeze.py out of this claim's texts. Not trusted: Lean checks it.
import Derived.Test.YtldaingkcnmaoaaDoorXBase4
import Derived.Test.YtldaingkcnmaoaaDoorX21
import Derived.Test.YtldaingkcnmaoaaDoorX17
set_option linter.unusedVariables false
set_option linter.unusedSimpArgs false
namespace Go.Proofs.YtldaingkcnmaoaaDoor.M
open Go.RowKit Go.Proofs.YtldaingkcnmaoaaDoorW.PrintWords Go.Proofs.YtldaingkcnmaoaaDoor.X
abbrev Rq := S31
abbrev eB : ByteArray := ⟨#[]⟩
theorem eB_toBA : eB = toBA [] := rfl
def parseT (ls : List ByteArray) : HdT := hT (parseL (ls.map fun s => s.data.toList))
def byteL (c : CutS) (x : UInt8) : CutS :=
  if c.size + 1 > 1000 then failC { c with size := c.size + 1 } 431
  else if x.toNat ≠ 10 then (if crAt (c.line ++ [x]) = true then failC { c with size := c.size + 1, line := c.line ++ [x] } 400 else { c with size := c.size + 1, line := c.line ++ [x] })
  else if crAt (c.line ++ [x]) = false then failC { c with size := c.size + 1, line := c.line ++ [x] } 400
  else if c.line.length = 1 then
    (if c.lines.length = 0 then { c with size := 0, line := [] }
    else if (parseT c.lines).2.2.2.2.2.2 = 0 then { hdC { c with size := c.size + 1, line := [] } (parseT c.lines) with body := some (newB (parseT c.lines).2.2.2.2.2.1) } else failC (hdC { c with size := c.size + 1, line := [] } (parseT c.lines)) (parseT c.lines).2.2.2.2.2.2)
  else { c with size := c.size + 1, lines := c.lines ++ [toBA ((c.line ++ [x]).take (c.line.length - 1))], line := [] }
def InvC (c : CutS) : Prop := c.done = true ∨ (0 ≤ c.size ∧ c.size ≤ 1000 ∧ (c.line.length : Int) + c.lines.length ≤ c.size ∧ (∀ l ∈ c.lines, l.size ≤ 1000) ∧ (∀ b, c.body = some b → FitB b ∧ c.line = []))
theorem parseT_f (ls : List ByteArray) (hn : ls.length ≤ 1000) (hl : ∀ l ∈ ls, l.size ≤ 1000) : Ev (fun k => head_Parse.f k ls) (parseT ls) := by
  have e : ls = (ls.map fun s => s.data.toList).map toBA := by
    rw [List.map_map]
    conv => lhs; rw [← List.map_id ls]
    exact List.map_congr_left (fun s _ => (toBA_data s).symm)
  have h := parse_f (ls.map fun s => s.data.toList) (by rw [List.length_map]; omega) (fun l hl2 => by
    obtain ⟨s, hs, rfl⟩ := List.mem_map.1 hl2
    have := hl s hs
    simp only [Array.length_toList]
    have : s.data.size = s.size := rfl
    omega)
  rw [← e] at h
  exact h
theorem byteF_f (c : CutS) (x : UInt8) (hd : c.done = false) (hi : InvC c) : Ev (fun k => byteF k c x) (byteL c x) := by
  obtain ⟨h0, h1, h2, h3, h4⟩ := hi.resolve_left (by rw [hd]; decide)
  unfold byteF byteL
  by_cases e1 : c.size + 1 > 1000
  · simp only [if_pos e1]; exact Ev.now _
  · simp only [if_neg e1]
    by_cases e2 : x.toNat ≠ 10
    · simp only [if_pos e2]; exact Ev.now _
    · simp only [if_neg e2]
      by_cases e3 : crAt (c.line ++ [x]) = false
      · simp only [if_pos e3]; exact Ev.now _
      · simp only [if_neg e3]
        by_cases e4 : c.line.length = 1
        · simp only [if_pos e4]
          by_cases e5 : c.lines.length = 0
          · simp only [if_pos e5]; exact Ev.now _
          · simp only [if_neg e5]
            refine Ev.bind (parseT_f c.lines (by omega) h3) ?_
            exact Ev.now _
        · simp only [if_neg e4, show strOfNums (nts ((c.line ++ [x]).take (c.line.length - 1))) = toBA ((c.line ++ [x]).take (c.line.length - 1)) from strOfNums_nats _]; exact Ev.now _
def withW (c : CutS) (W : ByteArray) : CutS := if c.done = true then c else { c with wait := W }
theorem withW_live (c : CutS) (W : ByteArray) (hd : c.done = false) : withW c W = { c with wait := W } := by rw [withW, if_neg (by rw [hd]; decide)]
theorem withW_done (c : CutS) (W : ByteArray) (hd : c.done = true) : withW c W = c := by rw [withW, if_pos hd]
theorem failC_with (c : CutS) (W : ByteArray) (s : Int) : failC { c with wait := W } s = withW (failC c s) W := by rw [withW_done _ _ rfl]; rfl
theorem byteL_with (c : CutS) (x : UInt8) (W : ByteArray) (hd : c.done = false) : byteL { c with wait := W } x = withW (byteL c x) W := by
  unfold byteL
  simp only
  by_cases e1 : c.size + 1 > 1000
  · simp only [if_pos e1]; exact failC_with { c with size := c.size + 1 } W 431
  · simp only [if_neg e1]
    by_cases e2 : x.toNat ≠ 10
    · simp only [if_pos e2]
      by_cases e6 : crAt (c.line ++ [x]) = true
      · simp only [if_pos e6]; exact failC_with { c with size := c.size + 1, line := c.line ++ [x] } W 400
      · simp only [if_neg e6]; simp [withW, hdC, hd]
    · simp only [if_neg e2]
      by_cases e3 : crAt (c.line ++ [x]) = false
      · simp only [if_pos e3]; exact failC_with { c with size := c.size + 1, line := c.line ++ [x] } W 400
      · simp only [if_neg e3]
        by_cases e4 : c.line.length = 1
        · simp only [if_pos e4]
          by_cases e5 : c.lines.length = 0
          · simp only [if_pos e5]; simp [withW, hdC, hd]
          · simp only [if_neg e5]
            by_cases e7 : (parseT c.lines).2.2.2.2.2.2 = 0
            · simp only [if_pos e7]; simp [withW, hdC, hd]
            · simp only [if_neg e7]; exact failC_with (hdC { c with size := c.size + 1, line := [] } (parseT c.lines)) W _
        · simp only [if_neg e4]; simp [withW, hdC, hd]
theorem byteL_wait (c : CutS) (x : UInt8) (h : c.wait = eB) : (byteL c x).wait = eB := by
  unfold byteL
  repeat' split
  all_goals first | exact h | rfl
theorem byteL_inv (c : CutS) (x : UInt8) (hd : c.done = false) (hb : c.body = none) (hi : InvC c) : InvC (byteL c x) := by
  obtain ⟨h0, h1, h2, h3, h4⟩ := hi.resolve_left (by rw [hd]; decide)
  have hbn : ∀ b, c.body = some b → FitB b ∧ False := fun b e => by rw [hb] at e; cases e
  unfold byteL
  by_cases e1 : c.size + 1 > 1000
  · rw [if_pos e1]; exact .inl rfl
  · rw [if_neg e1]
    have hl1 : (c.line ++ [x]).length = c.line.length + 1 := by simp
    by_cases e2 : x.toNat ≠ 10
    · rw [if_pos e2]
      by_cases e6 : crAt (c.line ++ [x]) = true
      · rw [if_pos e6]; exact .inl rfl
      · rw [if_neg e6]; exact .inr ⟨by show 0 ≤ c.size + 1; omega, by show c.size + 1 ≤ 1000; omega, by show ((c.line ++ [x]).length : Int) + c.lines.length ≤ c.size + 1; omega, h3, fun b e => (hbn b e).2.elim⟩
    · rw [if_neg e2]
      by_cases e3 : crAt (c.line ++ [x]) = false
      · rw [if_pos e3]; exact .inl rfl
      · rw [if_neg e3]
        by_cases e4 : c.line.length = 1
        · rw [if_pos e4]
          by_cases e5 : c.lines.length = 0
          · rw [if_pos e5]; exact .inr ⟨Int.le_refl _, by show (0 : Int) ≤ 1000; omega, by show ((([] : List UInt8).length : Nat) : Int) + (c.lines.length : Int) ≤ 0; simp only [List.length_nil]; omega, h3, fun b e => (hbn b e).2.elim⟩
          · rw [if_neg e5]
            by_cases e7 : (parseT c.lines).2.2.2.2.2.2 = 0
            · rw [if_pos e7]
              exact .inr ⟨by show 0 ≤ c.size + 1; omega, by show c.size + 1 ≤ 1000; omega, by show ((([] : List UInt8).length : Nat) : Int) + (c.lines.length : Int) ≤ c.size + 1; simp only [List.length_nil]; omega, h3, fun b e => ⟨by have e' := Option.some.inj e; rw [← e']; exact newB_fit _, rfl⟩⟩
            · rw [if_neg e7]; exact .inl rfl
        · rw [if_neg e4]
          have hpos : 1 ≤ c.line.length := by
            cases hl : c.line with
            | nil => rw [hl] at e3; exact absurd (crAt_one [] x rfl) e3
            | cons a r => simp
          refine .inr ⟨by show 0 ≤ c.size + 1; omega, by show c.size + 1 ≤ 1000; omega, ?_, ?_, fun b e => (hbn b e).2.elim⟩
          · show ((([] : List UInt8).length : Nat) : Int) + ((c.lines ++ [_]).length : Int) ≤ c.size + 1
            simp only [List.length_nil, List.length_append, List.length_singleton]
            omega
          · intro l hl
            rcases List.mem_append.1 hl with hl | hl
            · exact h3 l hl
            · rw [List.mem_singleton.1 hl, toBA_size, List.length_take]; omega
def pendB (c : CutS) : Option BodyS := match c.body with
  | none => none
  | some b => if b.done = true then some b else none
def stepL (c : CutS) (x : UInt8) : CutS := match c.body with
  | none => byteL c x
  | some b => { c with body := some (stepB b x) }
def normM (c : CutS) (out : List Rq) : CutS × List Rq := if c.done = true then (c, out) else match pendB c with
  | none => (c, out)
  | some b => ((endF c b).2.2, if (endF c b).2.1 = true then out ++ [(endF c b).1] else out)
def runM : List UInt8 → CutS → List Rq → CutS × List Rq
  | [], c, out => (c, out)
  | x :: r, c, out => if c.done = true then (c, out) else runM r (normM (stepL c x) out).1 (normM (stepL c x) out).2
theorem runM_done (s : List UInt8) (c : CutS) (out : List Rq) (h : c.done = true) : runM s c out = (c, out) := by
  cases s with
  | nil => rfl
  | cons x r => rw [runM, if_pos h]
theorem stepL_wait (c : CutS) (x : UInt8) (h : c.wait = eB) : (stepL c x).wait = eB := by
  unfold stepL
  split
  · exact byteL_wait c x h
  · exact h
theorem stepL_inv (c : CutS) (x : UInt8) (hd : c.done = false) (hi : InvC c) : InvC (stepL c x) := by
  unfold stepL
  cases hb : c.body with
  | none => exact byteL_inv c x hd hb hi
  | some b =>
    obtain ⟨h0, h1, h2, h3, h4⟩ := hi.resolve_left (by rw [hd]; decide)
    exact .inr ⟨h0, h1, h2, h3, fun b' e => ⟨by have e' := Option.some.inj e; rw [← e']; exact step_fit b x (h4 b hb).1, (h4 b hb).2⟩⟩
theorem endC_wait (c : CutS) (h : c.wait = eB) : (endC c).wait = eB := by
  unfold endC
  split
  · rfl
  · exact h
theorem endC_inv (c : CutS) (hl : c.line = []) : InvC (endC c) := by
  unfold endC
  split
  · exact .inl rfl
  · exact .inr ⟨Int.le_refl _, by show (0 : Int) ≤ 1000; omega, by show (c.line.length : Int) + ((([] : List ByteArray).length : Nat) : Int) ≤ 0; rw [hl]; simp, fun l hl => (by cases hl), fun b e => (by cases e)⟩
theorem endC_with (c : CutS) (W : ByteArray) (hd : c.done = false) : endC { c with wait := W } = withW (endC c) W := by
  unfold endC
  by_cases h : c.hc = true
  · simp only [if_pos h]; exact failC_with { c with body := none, size := 0, lines := [] } W 0
  · simp only [if_neg h]; simp [withW, hdC, hd]
theorem endC_free (c : CutS) : (endC c).done = true ∨ pendB (endC c) = none := by
  unfold endC
  split
  · exact .inl rfl
  · exact .inr rfl
theorem tlB_cons (x : UInt8) (r : List UInt8) : tlB (toBA (x :: r)) = toBA r := by
  unfold tlB
  rw [toBA_extract]
  congr 1
  simp
theorem hdB_cons (x : UInt8) (r : List UInt8) : hdB (toBA (x :: r)) = x := by
  unfold hdB
  have h : bt (toBA (x :: r)) 0 = (x.toNat : Int) := bt_mid [] r x
  rw [h]
  apply UInt8.toNat_inj.1
  have := u8_lt x
  simp only [Int.toNat_natCast, UInt8.toNat_ofNat']
  omega
def NA (c : CutS) (rest : List UInt8) (out : List Rq) (r : List Rq × Int) : Prop := ∃ p, Ev (fun k => nextF k (withW c (toBA rest))) p ∧ Ev (fun k => X.allL k p.1 p.2.1 p.2.2 out) r
theorem al_end (q : Rq) (c : CutS) (out : List Rq) : Ev (fun k => X.allL k q false c out) (out, c.status) := by
  refine Ev.step' ?_
  simp only [X.allL, Bool.false_eq_true, if_false]
  exact Ev.now _
theorem na_end (c : CutS) (rest : List UInt8) (out : List Rq) (c' : CutS) (hs : c'.status = c.status) (h : Ev (fun k => nextF k (withW c (toBA rest))) (z31, false, c')) : NA c rest out (out, c.status) := ⟨_, h, by rw [← hs]; exact al_end _ _ _⟩
theorem na_free (rest : List UInt8) : ∀ (c : CutS) (out : List Rq), InvC c → c.wait = eB → out.length + 2 * rest.length + 4 ≤ 1000000000 → (c.done = true ∨ pendB c = none) →
    (∀ x r, rest = x :: r → ∀ (c : CutS) (out : List Rq), InvC c → c.wait = eB → out.length + 2 * r.length + 5 ≤ 1000000000 → NA c r out ((runM r (normM c out).1 (normM c out).2).2, (runM r (normM c out).1 (normM c out).2).1.status)) →
    NA c rest out ((runM rest c out).2, (runM rest c out).1.status) := by
  intro c out hi hw hlim hfree ih
  by_cases hd : c.done = true
  · rw [runM_done _ _ _ hd]
    refine na_end c rest out (withW c (toBA rest)) (by rw [withW_done _ _ hd]) (Ev.step' ?_)
    rw [withW_done _ _ hd]
    simp only [nextF, if_pos hd]
    exact Ev.now _
  · have hdf : c.done = false := by simpa using hd
    have hp := hfree.resolve_left hd
    have hwl := withW_live c (toBA rest) hdf
    cases rest with
    | nil =>
      refine na_end c [] out (withW c (toBA [])) (by rw [hwl]) (Ev.step' ?_)
      rw [hwl]
      simp only [nextF, if_neg hd]
      cases hb : c.body with
      | none => simp only [toBA_size, List.length_nil, if_true]; exact Ev.now _
      | some b =>
        have hbd : ¬ b.done = true := fun e => by
          unfold pendB at hp
          rw [hb] at hp
          simp only [if_pos e] at hp
          cases hp
        simp only [if_neg hbd, toBA_size, List.length_nil, if_true]
        exact Ev.now _
    | cons x r =>
      rw [runM, if_neg hd]
      have hlen : (x :: r).length = r.length + 1 := rfl
      have key := ih x r rfl (stepL c x) out (stepL_inv c x hdf hi) (stepL_wait c x hw) (by omega)
      obtain ⟨p, h1, h2⟩ := key
      refine ⟨p, Ev.step' ?_, h2⟩
      rw [hwl]
      simp only [nextF, if_neg hd]
      obtain ⟨g0, g1, g2, g3, g4⟩ := hi.resolve_left hd
      cases hb : c.body with
      | none =>
        have hfit : FitC ({ c with wait := toBA (x :: r) } : CutS) := ⟨g0, g1, by show c.line.length ≤ 1000; omega, by show c.lines.length ≤ 1000; omega⟩
        have hs0 : ¬ (toBA (x :: r)).size = 0 := by rw [toBA_size]; simp
        simp only [if_neg hs0, tlB_cons, hdB_cons]
        have hbf := byteF_f { c with wait := toBA r } x hdf hi
        rw [byteL_with c x _ hdf] at hbf
        have e0 : stepL c x = byteL c x := by unfold stepL; rw [hb]
        rw [e0] at h1
        have hfit2 : FitC ({ c with wait := toBA (x :: r), body := none } : CutS) := hfit
        have e9 : ({ wait := toBA r, lines := c.lines, line := c.line, size := c.size, hm := c.hm, ht := c.ht, hf := c.hf, hb := c.hb, hc := c.hc, hl := c.hl, hs := c.hs, body := none, status := c.status, done := c.done } : CutS) = { c with wait := toBA r } := by rw [← hb]
        simp only [if_pos hfit2]
        rw [e9]
        exact Ev.bind hbf h1
      | some b =>
        have hbd : ¬ b.done = true := fun e => by
          unfold pendB at hp
          rw [hb] at hp
          simp only [if_pos e] at hp
          cases hp
        have hs0 : ¬ (toBA (x :: r)).size = 0 := by rw [toBA_size]; simp
        simp only [if_neg hbd, if_neg hs0, tlB_cons, hdB_cons]
        have e0 : stepL c x = { c with body := some (stepB b x) } := by unfold stepL; rw [hb]
        rw [e0] at h1
        refine Ev.bind (feed_f b x (g4 b hb).1) ?_
        rw [withW_live { c with body := some (stepB b x) } _ hdf] at h1
        exact h1
theorem na_step (rest : List UInt8) (ih : ∀ x r, rest = x :: r → ∀ (c : CutS) (out : List Rq), InvC c → c.wait = eB → out.length + 2 * r.length + 5 ≤ 1000000000 → NA c r out ((runM r (normM c out).1 (normM c out).2).2, (runM r (normM c out).1 (normM c out).2).1.status)) (c : CutS) (out : List Rq) (hi : InvC c) (hw : c.wait = eB) (hlim : out.length + 2 * rest.length + 5 ≤ 1000000000) :
    NA c rest out ((runM rest (normM c out).1 (normM c out).2).2, (runM rest (normM c out).1 (normM c out).2).1.status) := by
  by_cases hfree : c.done = true ∨ pendB c = none
  · have e : normM c out = (c, out) := by
      unfold normM
      split
      · rfl
      · rename_i hd
        rw [hfree.resolve_left hd]
    rw [e]
    exact na_free rest c out hi hw (by omega) hfree ih
  · have hd : ¬ c.done = true := fun h => hfree (.inl h)
    have hdf : c.done = false := by simpa using hd
    cases hp : pendB c with
    | none => exact absurd (.inr hp) hfree
    | some b =>
      have hb : c.body = some b ∧ b.done = true := by
        unfold pendB at hp
        cases hc : c.body with
        | none => rw [hc] at hp; cases hp
        | some b' =>
          rw [hc] at hp
          simp only at hp
          by_cases e : b'.done = true
          · rw [if_pos e] at hp; rw [Option.some.inj hp] at e ⊢; exact ⟨rfl, e⟩
          · rw [if_neg e] at hp; cases hp
      obtain ⟨g0, g1, g2, g3, g4⟩ := hi.resolve_left hd
      have hwl := withW_live c (toBA rest) hdf
      have hstep : Ev (fun k => nextF k (withW c (toBA rest))) (endF (withW c (toBA rest)) b) := by
        refine Ev.step' ?_
        rw [hwl]
        simp only [nextF, if_neg hd, hb.1, if_pos hb.2]
        exact Ev.now _
      have hn : normM c out = ((endF c b).2.2, if (endF c b).2.1 = true then out ++ [(endF c b).1] else out) := by rw [normM, if_neg hd, hp]
      rw [hn]
      by_cases hs : b.status ≠ 0
      · have e1 : endF c b = (z31, false, failC c b.status) := by rw [endF, if_pos hs]
        have e2 : endF (withW c (toBA rest)) b = (z31, false, failC (withW c (toBA rest)) b.status) := by rw [endF, if_pos hs]
        rw [e1]
        simp only [Bool.false_eq_true, if_false]
        rw [runM_done _ _ _ rfl]
        rw [e2] at hstep
        exact ⟨_, hstep, al_end _ _ _⟩
      · have e1 : endF c b = (reqC c b, true, endC c) := by rw [endF, if_neg hs]
        have e2 : endF (withW c (toBA rest)) b = (reqC c b, true, withW (endC c) (toBA rest)) := by rw [endF, if_neg hs, hwl, endC_with _ _ hdf]; rfl
        rw [e1]
        simp only [if_true]
        rw [e2] at hstep
        obtain ⟨p, h1, h2⟩ := na_free rest (endC c) (out ++ [reqC c b]) (endC_inv c (g4 b hb.1).2) (endC_wait c hw) (by simp only [List.length_append, List.length_singleton]; omega) (endC_free c) ih
        refine ⟨_, hstep, Ev.step' ?_⟩
        have hfree2 : (withW (endC c) (toBA rest)).done = true ∨ (withW (endC c) (toBA rest)).body = none := by
          unfold endC
          split
          · exact .inl (by rw [withW_done _ _ rfl]; rfl)
          · exact .inr (by rw [withW_live _ _ (by exact hdf)])
        simp only [X.allL, if_true, if_pos (show out.length < 1000000000 by omega), if_pos hfree2]
        exact Ev.bind h1 h2
theorem na_all : ∀ (rest : List UInt8) (c : CutS) (out : List Rq), InvC c → c.wait = eB → out.length + 2 * rest.length + 5 ≤ 1000000000 →
    NA c rest out ((runM rest (normM c out).1 (normM c out).2).2, (runM rest (normM c out).1 (normM c out).2).1.status) := by
  intro rest
  induction rest with
  | nil => exact fun c out => na_step [] (fun x r e => by cases e) c out
  | cons x r ih => exact fun c out => na_step (x :: r) (fun x' r' e => by injection e with e1 e2; subst e2; exact ih) c out
theorem cut_all_f (s : List UInt8) (hs : s.length ≤ 100000000) : Ev (fun k => cutter_All.f k (toBA s)) ((runM s newC []).2, (runM s newC []).1.status) := by
  have hi : InvC newC := .inr ⟨Int.le_refl _, by show (0 : Int) ≤ 1000; omega, Int.le_refl _, fun l hl => (by cases hl), fun b e => (by cases e)⟩
  obtain ⟨p, h1, h2⟩ := na_all s newC [] hi rfl (by simp only [List.length_nil]; omega)
  have e : cutter_Cutter_Feed.f newC (toBA s) = some (withW newC (toBA s)) := by
    rw [cutter_Cutter_Feed.f, if_pos (by show (0 : Nat) + (toBA s).size ≤ _; rw [toBA_size]; omega), feedC, if_neg (by decide), withW, if_neg (by decide)]
    show some ({ newC with wait := eB ++ toBA s } : CutS) = _
    rw [eB_toBA, toBA_append]
    rfl
  unfold cutter_All.f
  simp only [e, Option.bind_some]
  exact Ev.bind h1 h2
end Go.Proofs.YtldaingkcnmaoaaDoor.M
namespace Go.Proofs.YtldaingkcnmaoaaDoor.M
open Go.RowKit Go.Proofs.YtldaingkcnmaoaaDoorW.PrintWords Go.Proofs.YtldaingkcnmaoaaDoor.X
theorem pend_body {c : CutS} {b : BodyS} (hp : pendB c = some b) : c.body = some b ∧ b.done = true := by
  unfold pendB at hp
  cases hc : c.body with
  | none => rw [hc] at hp; cases hp
  | some b' =>
    rw [hc] at hp
    simp only at hp
    by_cases e : b'.done = true
    · rw [if_pos e] at hp; rw [Option.some.inj hp] at e ⊢; exact ⟨rfl, e⟩
    · rw [if_neg e] at hp; cases hp
theorem new_inv : InvC newC := .inr ⟨Int.le_refl _, by show (0 : Int) ≤ 1000; omega, Int.le_refl _, fun l hl => (by cases hl), fun b e => (by cases e)⟩
end Go.Proofs.YtldaingkcnmaoaaDoor.M
namespace Go.Proofs.YtldaingkcnmaoaaDoor.M
open Go.RowKit Go.Proofs.YtldaingkcnmaoaaDoorW.PrintWords Go.Proofs.YtldaingkcnmaoaaDoor.X
theorem cut_fit_f : Ev (fun k => crossroadlaw04_fit.f k) true := Ev.of (fun k => crossroadlaw04_fit.mono k) (k := 120) (by decide +kernel)
end Go.Proofs.YtldaingkcnmaoaaDoor.M
